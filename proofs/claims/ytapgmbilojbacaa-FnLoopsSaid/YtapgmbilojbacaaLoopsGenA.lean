import Derived.Test.YtapgmbilojbacaaLibC
import Derived.Test.YtapgmbilojbacaaProg
set_option linter.unusedVariables false
set_option linter.unusedSimpArgs false
set_option linter.unusedSectionVars false
/-
  Functions as plain functions, and their contracts. Printed by a program.
-/
namespace Go.Proofs
open Go.Ide

noncomputable def laws_b10Long (a0 : List Int) (a1 : List Int) : Option (Bool) :=
  (show Option (Bool) from
    bif (decide ((lenI a0) > (1048576 : Int))) then
      some true
    else
      some (decide ((lenI a1) > (1048576 : Int)))).bind fun v1 =>
  some v1

theorem f11_ok {a0 : List Int} {a1 : List Int} {r : Bool} (hr : laws_b10Long a0 a1 = some r) : CallOK Try.prog 11 [.imm (.sl (.int .u8)) a0, .imm (.sl (.int .u8)) a1] [⟨false, .bool, r⟩] [] := by
  unfold laws_b10Long at hr
  refine CallOK.of_body (ts := [(false, .bool)]) Try.func11 rfl (by kernel_rfl) (Nat.le_of_ble_eq_true (by kernel_rfl)) fun cx hP hN hO hF => ?_
  have hO : cx.own.map Prod.fst = [] := hO
  have hX := CxIs.mk hP hN hO
  have hF := hF rfl
  show HT cx ⟨[(0, .one (.dat (.sl (.int .u8)) a0)), (1, .one (.dat (.sl (.int .u8)) a1))], [], 0⟩ _ _
  refine HT.rg2 [oH] ⟨[(0, .one (.dat (.sl (.int .u8)) a0)), (1, .one (.dat (.sl (.int .u8)) a1))], [], 0⟩ hX (by kernel_rfl) allNil ?_
  obtain ⟨v1', hT3, hr⟩ := of_bind hr
  refine HT.join (fun (v1 : Bool) => ⟨[(4, bV v1)], [], 0⟩) (fun v => v = v1') (fun v1 hv2 => ?_) (fun cont => ?_)
  · subst hv2
    have hr := of_some hr
    subst hr
    exact HT.ret ⟨[bV v1], [], [], by kernel_rfl, by kernel_rfl, rfl, by kernel_rfl, by kernel_rfl, trivial⟩
  · rcases of_bif hT3 with ⟨hb4, hT3⟩ | ⟨hb4, hT3⟩
    · exact HT.rgK [oH, oH, oH, oH, ⟨some true, .no⟩, ⟨some true, .no⟩, ⟨some true, .no⟩, ⟨none, .tv true⟩, oH] [] [] hX (by kernel_rfl) (allCons hb4 (allCons hb4 (allCons hb4 (allCons hb4 allNil)))) (fun _ h => (qThen (h.ht (cont true (of_some hT3)))))
    · exact HT.rgK [oH, oH, oH, oH, ⟨some false, .no⟩, ⟨some false, .no⟩, ⟨some false, .no⟩, ⟨none, .tv false⟩, oH] [] [] hX (by kernel_rfl) (allCons hb4 (allCons hb4 (allCons hb4 (allCons hb4 allNil)))) (fun _ h => (qThen (h.ht (cont (decide ((lenI a1) > (1048576 : Int))) (of_some hT3)))))

noncomputable def laws_b10At (a0 : List Int) (a1 : Int) (a2 : Int) : Option (Int) :=
  bif (decide (a2 ≤ (1 : Int))) then
    some (0 : Int)
  else
    bif (decide (a1 < (lenI a0))) then
      guardP ((0 : Int) ≤ a1 ∧ a1 < lenI a0) (
        guardP (a2 ≠ 0) (
          some (Int.tmod (IntKind.wrap .i64 (List.getD a0 (Int.toNat a1) (0 : Int))) a2)))
    else
      guardP (a2 ≠ 0) (
        some (Int.tmod (wadd .i64 (wmul .i64 a1 (37 : Int)) (11 : Int)) a2))

theorem f19_ok {a0 : List Int} {a1 : Int} {a2 : Int} {r : Int} (hr : laws_b10At a0 a1 a2 = some r) : CallOK Try.prog 19 [.imm (.sl (.int .u8)) a0, .imm tI a1, .imm tI a2] [⟨false, tI, r⟩] [] := by
  unfold laws_b10At at hr
  refine CallOK.of_body (ts := [(false, tI)]) Try.func19 rfl (by kernel_rfl) (Nat.le_of_ble_eq_true (by kernel_rfl)) fun cx hP hN hO hF => ?_
  have hO : cx.own.map Prod.fst = [] := hO
  have hX := CxIs.mk hP hN hO
  have hF := hF rfl
  show HT cx ⟨[(0, .one (.dat (.sl (.int .u8)) a0)), (1, iV a1), (2, iV a2)], [], 0⟩ _ _
  refine HT.rg2 [oH] ⟨[(0, .one (.dat (.sl (.int .u8)) a0)), (1, iV a1), (2, iV a2)], [], 0⟩ hX (by kernel_rfl) allNil ?_
  refine HT.seq ?_
  refine HT.rg2 (oHs 2) ⟨[(0, .one (.dat (.sl (.int .u8)) a0)), (1, iV a1), (2, iV a2), (8, bV (decide (a2 ≤ (1 : Int))))], [], 0⟩ hX (by kernel_rfl) allNil ?_
  rcases of_bif hr with ⟨hb1, hr⟩ | ⟨hb1, hr⟩
  · refine HT.cond1 rfl hb1 ?_
    refine HT.rg2 [oH] ⟨[(6, iV (0 : Int))], [], 0⟩ hX (by kernel_rfl) allNil ?_
    have hr := of_some hr
    subst hr
    exact HT.ret (qThenR ⟨[iV (0 : Int)], [], [], by kernel_rfl, by kernel_rfl, rfl, by kernel_rfl, by kernel_rfl, trivial⟩)
  · refine HT.cond0 rfl hb1 ?_
    refine HT.skip (qThen ?_)
    refine HT.seq ?_
    refine HT.rg2 (oHs 4) ⟨[(0, .one (.dat (.sl (.int .u8)) a0)), (1, iV a1), (2, iV a2), (12, bV (decide (a1 < (lenI a0))))], [], 0⟩ hX (by kernel_rfl) allNil ?_
    rcases of_bif hr with ⟨hb2, hr⟩ | ⟨hb2, hr⟩
    · refine HT.cond1 rfl hb2 ?_
      obtain ⟨hg3, hr⟩ := of_guard hr
      obtain ⟨hg4, hr⟩ := of_guard hr
      refine HT.rg2 (oHs 8) ⟨[(6, iV (Int.tmod (IntKind.wrap .i64 (List.getD a0 (Int.toNat a1) (0 : Int))) a2))], [], 0⟩ hX (by kernel_rfl) (allCons hg3 (allCons hg4 allNil)) ?_
      have hr := of_some hr
      subst hr
      exact HT.ret (qThenR ⟨[iV (Int.tmod (IntKind.wrap .i64 (List.getD a0 (Int.toNat a1) (0 : Int))) a2)], [], [], by kernel_rfl, by kernel_rfl, rfl, by kernel_rfl, by kernel_rfl, trivial⟩)
    · refine HT.cond0 rfl hb2 ?_
      refine HT.skip (qThen ?_)
      obtain ⟨hg5, hr⟩ := of_guard hr
      refine HT.rg2 (oHs 6) ⟨[(6, iV (Int.tmod (wadd .i64 (wmul .i64 a1 (37 : Int)) (11 : Int)) a2))], [], 0⟩ hX (by kernel_rfl) (allCons hg5 allNil) ?_
      have hr := of_some hr
      subst hr
      exact HT.ret ⟨[iV (Int.tmod (wadd .i64 (wmul .i64 a1 (37 : Int)) (11 : Int)) a2)], [], [], by kernel_rfl, by kernel_rfl, rfl, by kernel_rfl, by kernel_rfl, trivial⟩

noncomputable def spec_l00From (a0 : List Int) : Option ((List Int × Int × Int)) :=
  some (a0, (0 : Int), (0 : Int))

theorem f93_ok {a0 : List Int} {r : (List Int × Int × Int)} (hr : spec_l00From a0 = some r) : CallOK Try.prog 93 [.imm (.sl (.int .u8)) a0] [⟨true, (.bx (.st (.pair (.sl (.int .u8)) (.pair tI (.int .u64))))), [r]⟩] [] := by
  unfold spec_l00From at hr
  refine CallOK.of_body (ts := [(true, (.bx (.st (.pair (.sl (.int .u8)) (.pair tI (.int .u64))))))]) Try.func93 rfl (by kernel_rfl) (Nat.le_of_ble_eq_true (by kernel_rfl)) fun cx hP hN hO hF => ?_
  have hO : cx.own.map Prod.fst = [] := hO
  have hX := CxIs.mk hP hN hO
  have hF := hF rfl
  show HT cx ⟨[(0, .one (.dat (.sl (.int .u8)) a0))], [], 0⟩ _ _
  refine HT.rg2 [oH] ⟨[(0, .one (.dat (.sl (.int .u8)) a0))], [], 0⟩ hX (by kernel_rfl) allNil ?_
  refine HT.rg2 [oH, oH, ⟨none, .ty (.st (.pair (.sl (.int .u8)) (.pair tI (.int .u64))))⟩, oH] ⟨[(2, .one (.elp 0 0 3 0))], [(0, .seq (.st (.pair (.sl (.int .u8)) (.pair tI (.int .u64)))) ([(a0, (0 : Int), (0 : Int))]))], 1⟩ hX (by kernel_rfl) allNil ?_
  have hr := of_some hr
  subst hr
  exact HT.ret ⟨[.one (.elp 0 0 3 0)], [0], [], by kernel_rfl, by kernel_rfl, rfl, by kernel_rfl, by kernel_rfl, trivial⟩

noncomputable def spec_l00Src_next (a0 : List Int × Int × Int) : Option (Int × (List Int × Int × Int)) :=
  (show Option (Int) from
    bif (decide (a0.2.1 < (lenI a0.1))) then
      guardP ((0 : Int) ≤ a0.2.1 ∧ a0.2.1 < lenI a0.1) (
        some (IntKind.wrap .i64 (List.getD a0.1 (Int.toNat a0.2.1) (0 : Int))))
    else
      some (0 : Int)).bind fun v1 =>
  bif (decide ((wadd .i64 a0.2.1 (1 : Int)) ≤ (lenI a0.1))) then
    some (v1, a0.1, (wadd .i64 a0.2.1 (1 : Int)), (wadd .u64 (wadd .u64 (wmul .u64 a0.2.2 (6364136223846793005 : Int)) (IntKind.wrap .u64 v1)) (1442695040888963407 : Int)))
  else
    (some (IntKind.wrap .i64 (IntKind.wrap .u64 (BitVec.ofInt (IntKind.bits .u64) (Int.fdiv (wadd .u64 (wadd .u64 (wmul .u64 a0.2.2 (6364136223846793005 : Int)) (IntKind.wrap .u64 v1)) (1442695040888963407 : Int)) (2 ^ (min (Int.toNat (40 : Int)) (IntKind.bits .u64)))) &&& BitVec.ofInt (IntKind.bits .u64) (255 : Int)).toNat))).bind fun q5 =>
    some (q5, a0.1, (wadd .i64 a0.2.1 (1 : Int)), (wadd .u64 (wadd .u64 (wmul .u64 a0.2.2 (6364136223846793005 : Int)) (IntKind.wrap .u64 v1)) (1442695040888963407 : Int)))

theorem f192_ok {a0 : List Int × Int × Int} {r : Int × (List Int × Int × Int)} (hr : spec_l00Src_next a0 = some r) : CallOK Try.prog 192 [.own (.bx (.st (.pair (.sl (.int .u8)) (.pair tI (.int .u64))))) [a0]] [⟨false, tI, r.1⟩] [⟨(.bx (.st (.pair (.sl (.int .u8)) (.pair tI (.int .u64))))), [r.2]⟩] := by
  unfold spec_l00Src_next at hr
  refine CallOK.of_body (ts := [(false, tI)]) Try.func192 rfl (by kernel_rfl) (Nat.le_of_ble_eq_true (by kernel_rfl)) fun cx hP hN hO hF => ?_
  have hO : cx.own.map Prod.fst = [0] := hO
  have hX := CxIs.mk hP hN hO
  have hF := hF rfl
  show HT cx ⟨[(0, .one (.elp 0 0 3 0))], [(0, .seq (.st (.pair (.sl (.int .u8)) (.pair tI (.int .u64)))) ([a0]))], 1⟩ _ _
  refine HT.rg2 [oH] ⟨[(0, .one (.elp 0 0 3 0))], [(0, .seq (.st (.pair (.sl (.int .u8)) (.pair tI (.int .u64)))) ([a0]))], 1⟩ hX (by kernel_rfl) allNil ?_
  refine HT.rg2 [oH] ⟨[(0, .one (.elp 0 0 3 0)), (3, iV (0 : Int))], [(0, .seq (.st (.pair (.sl (.int .u8)) (.pair tI (.int .u64)))) ([a0]))], 1⟩ hX (by kernel_rfl) allNil ?_
  obtain ⟨v1', hT3, hr⟩ := of_bind hr
  refine HT.join (fun (v1 : Int) => ⟨[(0, .one (.elp 0 0 3 0)), (3, iV v1)], [(0, .seq (.st (.pair (.sl (.int .u8)) (.pair tI (.int .u64)))) ([a0]))], 1⟩) (fun v => v = v1') (fun v1 hv2 => ?_) (fun cont => ?_)
  · subst hv2
    refine HT.rg2 (oHs 8) ⟨[(0, .one (.elp 0 0 3 0)), (3, iV v1)], [(0, .seq (.st (.pair (.sl (.int .u8)) (.pair tI (.int .u64)))) ([(a0.1, (wadd .i64 a0.2.1 (1 : Int)), a0.2.2)]))], 1⟩ hX (by kernel_rfl) (allCons (show 0 < List.length [a0] from Nat.zero_lt_one) (allCons (show 0 < List.length [a0] from Nat.zero_lt_one) allNil)) ?_
    refine HT.rg2 (oHs 13) ⟨[(0, .one (.elp 0 0 3 0)), (3, iV v1)], [(0, .seq (.st (.pair (.sl (.int .u8)) (.pair tI (.int .u64)))) ([(a0.1, (wadd .i64 a0.2.1 (1 : Int)), (wadd .u64 (wadd .u64 (wmul .u64 a0.2.2 (6364136223846793005 : Int)) (IntKind.wrap .u64 v1)) (1442695040888963407 : Int)))]))], 1⟩ hX (by kernel_rfl) (allCons (show 0 < List.length [(a0.1, (wadd .i64 a0.2.1 (1 : Int)), a0.2.2)] from Nat.zero_lt_one) (allCons (show 0 < List.length [(a0.1, (wadd .i64 a0.2.1 (1 : Int)), a0.2.2)] from Nat.zero_lt_one) allNil)) ?_
    refine HT.seq ?_
    refine HT.dr2 9 [⟨oH, []⟩, ⟨oH, [0]⟩, ⟨oH, [0, 1]⟩, ⟨oH, [0, 1, 2]⟩, ⟨oH, []⟩, ⟨oH, [4]⟩, ⟨oH, [4, 5]⟩, ⟨oH, [4, 5, 6]⟩, ⟨oH, [4, 5, 6, 7]⟩] [[0, 1, 2, 3, 4, 5, 6, 7, 8]] [oH] ⟨[(0, .one (.elp 0 0 3 0)), (3, iV v1), (53, bV (decide ((wadd .i64 a0.2.1 (1 : Int)) ≤ (lenI a0.1))))], [(0, .seq (.st (.pair (.sl (.int .u8)) (.pair tI (.int .u64)))) ([(a0.1, (wadd .i64 a0.2.1 (1 : Int)), (wadd .u64 (wadd .u64 (wmul .u64 a0.2.2 (6364136223846793005 : Int)) (IntKind.wrap .u64 v1)) (1442695040888963407 : Int)))]))], 1⟩ hX (by kernel_rfl) (by kernel_rfl) (allCons (show 0 < List.length [(a0.1, (wadd .i64 a0.2.1 (1 : Int)), (wadd .u64 (wadd .u64 (wmul .u64 a0.2.2 (6364136223846793005 : Int)) (IntKind.wrap .u64 v1)) (1442695040888963407 : Int)))] from Nat.zero_lt_one) (allCons (show 0 < List.length [(a0.1, (wadd .i64 a0.2.1 (1 : Int)), (wadd .u64 (wadd .u64 (wmul .u64 a0.2.2 (6364136223846793005 : Int)) (IntKind.wrap .u64 v1)) (1442695040888963407 : Int)))] from Nat.zero_lt_one) allNil)) ?_
    rcases of_bif hr with ⟨hb4, hr⟩ | ⟨hb4, hr⟩
    · refine HT.cond1 rfl hb4 ?_
      refine HT.rg2 (oHs 2) ⟨[(2, iV v1)], [(0, .seq (.st (.pair (.sl (.int .u8)) (.pair tI (.int .u64)))) ([(a0.1, (wadd .i64 a0.2.1 (1 : Int)), (wadd .u64 (wadd .u64 (wmul .u64 a0.2.2 (6364136223846793005 : Int)) (IntKind.wrap .u64 v1)) (1442695040888963407 : Int)))]))], 1⟩ hX (by kernel_rfl) allNil ?_
      have hr := of_some hr
      subst hr
      exact HT.ret (qThenR ⟨[iV v1], [], [List.length ([(a0.1, (wadd .i64 a0.2.1 (1 : Int)), (wadd .u64 (wadd .u64 (wmul .u64 a0.2.2 (6364136223846793005 : Int)) (IntKind.wrap .u64 v1)) (1442695040888963407 : Int)))]) = List.length [a0]], by kernel_rfl, by kernel_rfl, rfl, by kernel_rfl, by kernel_rfl, ⟨(show List.length ([(a0.1, (wadd .i64 a0.2.1 (1 : Int)), (wadd .u64 (wadd .u64 (wmul .u64 a0.2.2 (6364136223846793005 : Int)) (IntKind.wrap .u64 v1)) (1442695040888963407 : Int)))]) = List.length [a0] from rfl), trivial⟩⟩)
    · refine HT.cond0 rfl hb4 ?_
      refine HT.skip (qThen ?_)
      refine HT.rg2 (oHs 8) ⟨[(2, iV (IntKind.wrap .i64 (IntKind.wrap .u64 (BitVec.ofInt (IntKind.bits .u64) (Int.fdiv (wadd .u64 (wadd .u64 (wmul .u64 a0.2.2 (6364136223846793005 : Int)) (IntKind.wrap .u64 v1)) (1442695040888963407 : Int)) (2 ^ (min (Int.toNat (40 : Int)) (IntKind.bits .u64)))) &&& BitVec.ofInt (IntKind.bits .u64) (255 : Int)).toNat)))], [(0, .seq (.st (.pair (.sl (.int .u8)) (.pair tI (.int .u64)))) ([(a0.1, (wadd .i64 a0.2.1 (1 : Int)), (wadd .u64 (wadd .u64 (wmul .u64 a0.2.2 (6364136223846793005 : Int)) (IntKind.wrap .u64 v1)) (1442695040888963407 : Int)))]))], 1⟩ hX (by kernel_rfl) (allCons (show 0 < List.length [(a0.1, (wadd .i64 a0.2.1 (1 : Int)), (wadd .u64 (wadd .u64 (wmul .u64 a0.2.2 (6364136223846793005 : Int)) (IntKind.wrap .u64 v1)) (1442695040888963407 : Int)))] from Nat.zero_lt_one) (allCons (show (0 : Int) ≤ (40 : Int) from by decide) allNil)) ?_
      obtain ⟨q5, hq6, hr⟩ := of_bind hr
      have hq6 := of_some2 hq6
      refine (Le.cv (s := ⟨[(0, 0)], [], [], false⟩) (own := [0]) (ps := [q5 = (IntKind.wrap .i64 (IntKind.wrap .u64 (BitVec.ofInt (IntKind.bits .u64) (Int.fdiv (wadd .u64 (wadd .u64 (wmul .u64 a0.2.2 (6364136223846793005 : Int)) (IntKind.wrap .u64 v1)) (1442695040888963407 : Int)) (2 ^ (min (Int.toNat (40 : Int)) (IntKind.bits .u64)))) &&& BitVec.ofInt (IntKind.bits .u64) (255 : Int)).toNat)), [(a0.1, (wadd .i64 a0.2.1 (1 : Int)), (wadd .u64 (wadd .u64 (wmul .u64 a0.2.2 (6364136223846793005 : Int)) (IntKind.wrap .u64 v1)) (1442695040888963407 : Int)))] = [(a0.1, (wadd .i64 a0.2.1 (1 : Int)), (wadd .u64 (wadd .u64 (wmul .u64 a0.2.2 (6364136223846793005 : Int)) (IntKind.wrap .u64 v1)) (1442695040888963407 : Int)))]]) (st' := ⟨[(2, iV q5)], [(0, .seq (.st (.pair (.sl (.int .u8)) (.pair tI (.int .u64)))) ([(a0.1, (wadd .i64 a0.2.1 (1 : Int)), (wadd .u64 (wadd .u64 (wmul .u64 a0.2.2 (6364136223846793005 : Int)) (IntKind.wrap .u64 v1)) (1442695040888963407 : Int)))]))], 1⟩) hO (fun h => by cases h) (by kernel_rfl) ⟨hq6, rfl, trivial⟩).ht ?_
      have hr := of_some hr
      subst hr
      exact HT.ret ⟨[iV q5], [], [List.length ([(a0.1, (wadd .i64 a0.2.1 (1 : Int)), (wadd .u64 (wadd .u64 (wmul .u64 a0.2.2 (6364136223846793005 : Int)) (IntKind.wrap .u64 v1)) (1442695040888963407 : Int)))]) = List.length [a0]], by kernel_rfl, by kernel_rfl, rfl, by kernel_rfl, by kernel_rfl, ⟨(show List.length ([(a0.1, (wadd .i64 a0.2.1 (1 : Int)), (wadd .u64 (wadd .u64 (wmul .u64 a0.2.2 (6364136223846793005 : Int)) (IntKind.wrap .u64 v1)) (1442695040888963407 : Int)))]) = List.length [a0] from rfl), trivial⟩⟩
  · refine HT.dr2 9 [⟨oH, []⟩, ⟨oH, [0]⟩, ⟨oH, [0, 1]⟩, ⟨oH, [0, 1, 2]⟩, ⟨oH, []⟩, ⟨oH, [4]⟩, ⟨oH, [4, 5]⟩, ⟨oH, [4, 5, 6]⟩, ⟨oH, [4, 5, 6, 7]⟩] [[0, 1, 2, 3, 4, 5, 6, 7, 8]] [oH] ⟨[(0, .one (.elp 0 0 3 0)), (3, iV (0 : Int)), (13, bV (decide (a0.2.1 < (lenI a0.1))))], [(0, .seq (.st (.pair (.sl (.int .u8)) (.pair tI (.int .u64)))) ([a0]))], 1⟩ hX (by kernel_rfl) (by kernel_rfl) (allCons (show 0 < List.length [a0] from Nat.zero_lt_one) (allCons (show 0 < List.length [a0] from Nat.zero_lt_one) allNil)) ?_
    rcases of_bif hT3 with ⟨hb7, hT3⟩ | ⟨hb7, hT3⟩
    · refine HT.cond1 rfl hb7 ?_
      obtain ⟨hg8, hT3⟩ := of_guard hT3
      exact HT.drK 8 [⟨oH, []⟩, ⟨oH, [0]⟩, ⟨oH, [0, 1]⟩, ⟨oH, [0, 1, 2]⟩, ⟨oH, []⟩, ⟨oH, [4]⟩, ⟨oH, [4, 5]⟩, ⟨oH, [4, 5, 6]⟩] [[0, 1, 2, 3, 4, 5, 6, 7], [0, 1, 2, 3, 4, 5, 6, 7, 8], [0, 1, 2, 3, 4, 5, 6, 7, 8, 9], [0, 1, 2, 3, 4, 5, 6, 7, 8, 9, 10]] (oHs 4) [(0, 0)] [] hX (by kernel_rfl) (by kernel_rfl) (allCons (show 0 < List.length [a0] from Nat.zero_lt_one) (allCons (show 0 < List.length [a0] from Nat.zero_lt_one) (allCons hg8 allNil))) (fun _ h => (qThen (h.ht (cont (IntKind.wrap .i64 (List.getD a0.1 (Int.toNat a0.2.1) (0 : Int))) (of_some hT3)))))
    · refine HT.cond0 rfl hb7 ?_
      refine HT.skip (qThen ?_)
      exact (Le.re [(0, 0)] [] hX (by kernel_rfl)).ht (cont (0 : Int) (of_some hT3))

noncomputable def spec_l00Src_pick (a0 : List Int × Int × Int) (a1 : Int) : Option (Int × (List Int × Int × Int)) :=
  bif (decide (a1 ≤ (1 : Int))) then
    some ((0 : Int), a0)
  else
    (spec_l00Src_next a0).bind fun y2 =>
    (show Option (Int × (List Int × Int × Int)) from
      bif (decide (a1 > (200 : Int))) then
        (spec_l00Src_next y2.2).bind fun y9 =>
        some ((wadd .i64 (wmul .i64 y2.1 (256 : Int)) y9.1), y9.2)
      else
        some (y2.1, y2.2)).bind fun v4 =>
    guardP (a1 ≠ 0) (
      some ((Int.tmod v4.1 a1), v4.2))

theorem f94_ok {a0 : List Int × Int × Int} {a1 : Int} {r : Int × (List Int × Int × Int)} (hr : spec_l00Src_pick a0 a1 = some r) : CallOK Try.prog 94 [.own (.bx (.st (.pair (.sl (.int .u8)) (.pair tI (.int .u64))))) [a0], .imm tI a1] [⟨false, tI, r.1⟩] [⟨(.bx (.st (.pair (.sl (.int .u8)) (.pair tI (.int .u64))))), [r.2]⟩] := by
  unfold spec_l00Src_pick at hr
  refine CallOK.of_body (ts := [(false, tI)]) Try.func94 rfl (by kernel_rfl) (Nat.le_of_ble_eq_true (by kernel_rfl)) fun cx hP hN hO hF => ?_
  have hO : cx.own.map Prod.fst = [0] := hO
  have hX := CxIs.mk hP hN hO
  have hF := hF rfl
  show HT cx ⟨[(0, .one (.elp 0 0 3 0)), (1, iV a1)], [(0, .seq (.st (.pair (.sl (.int .u8)) (.pair tI (.int .u64)))) ([a0]))], 1⟩ _ _
  refine HT.rg2 [oH] ⟨[(0, .one (.elp 0 0 3 0)), (1, iV a1)], [(0, .seq (.st (.pair (.sl (.int .u8)) (.pair tI (.int .u64)))) ([a0]))], 1⟩ hX (by kernel_rfl) allNil ?_
  refine HT.seq ?_
  refine HT.rg2 (oHs 2) ⟨[(0, .one (.elp 0 0 3 0)), (1, iV a1), (7, bV (decide (a1 ≤ (1 : Int))))], [(0, .seq (.st (.pair (.sl (.int .u8)) (.pair tI (.int .u64)))) ([a0]))], 1⟩ hX (by kernel_rfl) allNil ?_
  rcases of_bif hr with ⟨hb1, hr⟩ | ⟨hb1, hr⟩
  · refine HT.cond1 rfl hb1 ?_
    refine HT.rg2 [oH] ⟨[(4, iV (0 : Int))], [(0, .seq (.st (.pair (.sl (.int .u8)) (.pair tI (.int .u64)))) ([a0]))], 1⟩ hX (by kernel_rfl) allNil ?_
    have hr := of_some hr
    subst hr
    exact HT.ret (qThenR ⟨[iV (0 : Int)], [], [List.length ([a0]) = List.length [a0]], by kernel_rfl, by kernel_rfl, rfl, by kernel_rfl, by kernel_rfl, ⟨(show List.length ([a0]) = List.length [a0] from rfl), trivial⟩⟩)
  · refine HT.cond0 rfl hb1 ?_
    refine HT.skip (qThen ?_)
    obtain ⟨y2, hc3, hr⟩ := of_bind hr
    refine HT.rg2 [oH, ⟨none, .call [.own (.bx (.st (.pair (.sl (.int .u8)) (.pair tI (.int .u64)))))] [⟨false, tI, y2.1⟩] [⟨(.bx (.st (.pair (.sl (.int .u8)) (.pair tI (.int .u64))))), [y2.2]⟩]⟩, oH] ⟨[(0, .one (.elp 0 0 3 0)), (1, iV a1), (5, iV y2.1)], [(0, .seq (.st (.pair (.sl (.int .u8)) (.pair tI (.int .u64)))) ([y2.2]))], 1⟩ hX (by kernel_rfl) (allCons (f192_ok hc3) allNil) ?_
    obtain ⟨v4', hT6, hr⟩ := of_bind hr
    refine HT.join (fun (v4 : Int × (List Int × Int × Int)) => ⟨[(1, iV a1), (5, iV v4.1)], [(0, .seq (.st (.pair (.sl (.int .u8)) (.pair tI (.int .u64)))) ([v4.2]))], 1⟩) (fun v => v = v4') (fun v4 hv5 => ?_) (fun cont => ?_)
    · subst hv5
      obtain ⟨hg7, hr⟩ := of_guard hr
      refine HT.rg2 (oHs 4) ⟨[(4, iV (Int.tmod v4.1 a1))], [(0, .seq (.st (.pair (.sl (.int .u8)) (.pair tI (.int .u64)))) ([v4.2]))], 1⟩ hX (by kernel_rfl) (allCons hg7 allNil) ?_
      have hr := of_some hr
      subst hr
      exact HT.ret ⟨[iV (Int.tmod v4.1 a1)], [], [List.length ([v4.2]) = List.length [a0]], by kernel_rfl, by kernel_rfl, rfl, by kernel_rfl, by kernel_rfl, ⟨(show List.length ([v4.2]) = List.length [a0] from rfl), trivial⟩⟩
    · refine HT.rg2 (oHs 2) ⟨[(0, .one (.elp 0 0 3 0)), (1, iV a1), (5, iV y2.1), (11, bV (decide (a1 > (200 : Int))))], [(0, .seq (.st (.pair (.sl (.int .u8)) (.pair tI (.int .u64)))) ([y2.2]))], 1⟩ hX (by kernel_rfl) allNil ?_
      rcases of_bif hT6 with ⟨hb8, hT6⟩ | ⟨hb8, hT6⟩
      · refine HT.cond1 rfl hb8 ?_
        obtain ⟨y9, hc10, hT6⟩ := of_bind hT6
        exact HT.rgK [oH, oH, oH, ⟨none, .call [.own (.bx (.st (.pair (.sl (.int .u8)) (.pair tI (.int .u64)))))] [⟨false, tI, y9.1⟩] [⟨(.bx (.st (.pair (.sl (.int .u8)) (.pair tI (.int .u64))))), [y9.2]⟩]⟩, oH, oH] [(0, 0)] [] hX (by kernel_rfl) (allCons (f192_ok hc10) allNil) (fun _ h => (qThen (h.ht (cont ((wadd .i64 (wmul .i64 y2.1 (256 : Int)) y9.1), y9.2) (of_some hT6)))))
      · refine HT.cond0 rfl hb8 ?_
        refine HT.skip (qThen ?_)
        exact (Le.re [(0, 0)] [] hX (by kernel_rfl)).ht (cont (y2.1, y2.2) (of_some hT6))

noncomputable def spec_l07DrawWord_B1 (a1 : Int) (s1 : Int × (List Int × Int × Int) × List Int) : Option ((Int × (List Int × Int × Int) × List Int) ⊕ (((List Int × Int × Int) × List Int))) :=
  bif (decide (s1.1 > (0 : Int))) then
    (spec_l00Src_pick s1.2.1 a1).bind fun y8 =>
    guardP (List.length s1.2.2 + List.length ([y8.1] : List Int) ≤ appMax) (
      some (.inl ((wsub .i64 s1.1 (1 : Int)), y8.2, (s1.2.2 ++ ([y8.1] : List Int)))))
  else
    some (.inr (s1.2.1, s1.2.2))

noncomputable def spec_l07DrawWord (a0 : List Int × Int × Int) (a1 : Int) (a2 : Int) : Option (List Int × (List Int × Int × Int)) :=
  (rounds (spec_l07DrawWord_B1 a1) (a2, a0, ([] : List Int))).bind fun r3 =>
  some (r3.2, r3.1)

theorem f115_ok {a0 : List Int × Int × Int} {a1 : Int} {a2 : Int} {r : List Int × (List Int × Int × Int)} (hr : spec_l07DrawWord a0 a1 a2 = some r) : CallOK Try.prog 115 [.own (.bx (.st (.pair (.sl (.int .u8)) (.pair tI (.int .u64))))) [a0], .imm tI a1, .imm tI a2] [⟨true, tLI, r.1⟩] [⟨(.bx (.st (.pair (.sl (.int .u8)) (.pair tI (.int .u64))))), [r.2]⟩] := by
  unfold spec_l07DrawWord at hr
  refine CallOK.of_body (ts := [(true, tLI)]) Try.func115 rfl (by kernel_rfl) (Nat.le_of_ble_eq_true (by kernel_rfl)) fun cx hP hN hO hF => ?_
  have hO : cx.own.map Prod.fst = [0] := hO
  have hX := CxIs.mk hP hN hO
  have hF := hF rfl
  show HT cx ⟨[(0, .one (.elp 0 0 3 0)), (1, iV a1), (2, iV a2)], [(0, .seq (.st (.pair (.sl (.int .u8)) (.pair tI (.int .u64)))) ([a0]))], 1⟩ _ _
  refine HT.rg2 [oH] ⟨[(0, .one (.elp 0 0 3 0)), (1, iV a1), (2, iV a2)], [(0, .seq (.st (.pair (.sl (.int .u8)) (.pair tI (.int .u64)))) ([a0]))], 1⟩ hX (by kernel_rfl) allNil ?_
  refine HT.rg2 (oHs 2) ⟨[(0, .one (.elp 0 0 3 0)), (1, iV a1), (2, iV a2), (7, .one (.nilS))], [(0, .seq (.st (.pair (.sl (.int .u8)) (.pair tI (.int .u64)))) ([a0]))], 1⟩ hX (by kernel_rfl) allNil ?_
  refine HT.seq ?_
  refine HT.block ?_
  obtain ⟨r2, hL11, hr⟩ := of_bind hr
  refine HT.loopL (fun (s1 : Int × (List Int × Int × Int) × List Int) => ⟨[(0, .one (.elp 0 0 3 0)), (1, iV a1), (2, iV s1.1), (7, aV 1)], [(0, .seq (.st (.pair (.sl (.int .u8)) (.pair tI (.int .u64)))) ([s1.2.1])), (1, .seq tI s1.2.2)], 2⟩) (fun (r3 : ((List Int × Int × Int) × List Int)) => (.exit 0, ⟨[(7, aV 1)], [(0, .seq (.st (.pair (.sl (.int .u8)) (.pair tI (.int .u64)))) ([r3.1])), (1, .seq tI r3.2)], 2⟩)) (Le.re [(0, 0)] [1] hX (by kernel_rfl)) hL11 ?_ (fun s1 x4 hx5 hk6 => ?_)
  · refine (qBlockX (qThen ?_))
    refine HT.rg2 (oHs 2) ⟨[(6, aV 1)], [(0, .seq (.st (.pair (.sl (.int .u8)) (.pair tI (.int .u64)))) ([r2.1])), (1, .seq tI r2.2)], 2⟩ hX (by kernel_rfl) allNil ?_
    have hr := of_some hr
    subst hr
    exact HT.ret ⟨[aV 1], [1], [List.length ([r2.1]) = List.length [a0]], by kernel_rfl, by kernel_rfl, rfl, by kernel_rfl, by kernel_rfl, ⟨(show List.length ([r2.1]) = List.length [a0] from rfl), trivial⟩⟩
  · refine HT.seq ?_
    refine HT.rg2 (oHs 2) ⟨[(0, .one (.elp 0 0 3 0)), (1, iV a1), (2, iV s1.1), (7, aV 1), (10, bV (decide (s1.1 > (0 : Int))))], [(0, .seq (.st (.pair (.sl (.int .u8)) (.pair tI (.int .u64)))) ([s1.2.1])), (1, .seq tI s1.2.2)], 2⟩ hX (by kernel_rfl) allNil ?_
    rcases of_bif hx5 with ⟨hb7, hx5⟩ | ⟨hb7, hx5⟩
    · refine HT.cond1 rfl hb7 ?_
      refine HT.skip (qThen ?_)
      refine HT.seq ?_
      refine HT.block ?_
      obtain ⟨y8, hc9, hx5⟩ := of_bind hx5
      obtain ⟨hg10, hx5⟩ := of_guard hx5
      refine HT.rgL [oH, oH, oH, ⟨none, .call [.own (.bx (.st (.pair (.sl (.int .u8)) (.pair tI (.int .u64))))), .imm tI] [⟨false, tI, y8.1⟩] [⟨(.bx (.st (.pair (.sl (.int .u8)) (.pair tI (.int .u64))))), [y8.2]⟩]⟩, ⟨none, .ty tI⟩, ⟨none, .ty tI⟩, oH] ⟨[(0, .one (.elp 0 0 3 0)), (1, iV a1), (2, iV s1.1), (7, aV 3)], [(3, .seq tI (s1.2.2 ++ ([y8.1] : List Int))), (0, .seq (.st (.pair (.sl (.int .u8)) (.pair tI (.int .u64)))) ([y8.2]))], 4⟩ hX (by kernel_rfl) (allCons (f94_ok hc9) (allCons hg10 allNil)) (qBlock (qThen ?_))
      have hx5 := of_some hx5
      subst hx5
      exact HT.rgK (oHs 3) [(0, 0), (3, 1)] [] hX (by kernel_rfl) allNil (fun _ h => (qLoopN ⟨((wsub .i64 s1.1 (1 : Int)), y8.2, (s1.2.2 ++ ([y8.1] : List Int))), rfl, h⟩))
    · refine HT.cond0 rfl hb7 ?_
      have hx5 := of_some hx5
      subst hx5
      exact HT.exitL (Le.re [(0, 0), (1, 1)] [] hX (by kernel_rfl)) (qThenE (qLoopE (hk6 (s1.2.1, s1.2.2) rfl)))

noncomputable def spec_B10Word (a0 : List Int) (a1 : Int) (a2 : Int) : Option (List Int) :=
  (spec_l00From a0).bind fun y1 =>
  (spec_l07DrawWord y1 a1 a2).bind fun y3 =>
  some y3.1

theorem f34_ok {a0 : List Int} {a1 : Int} {a2 : Int} {r : List Int} (hr : spec_B10Word a0 a1 a2 = some r) : CallOK Try.prog 34 [.imm (.sl (.int .u8)) a0, .imm tI a1, .imm tI a2] [⟨true, tLI, r⟩] [] := by
  unfold spec_B10Word at hr
  refine CallOK.of_body (ts := [(true, tLI)]) Try.func34 rfl (by kernel_rfl) (Nat.le_of_ble_eq_true (by kernel_rfl)) fun cx hP hN hO hF => ?_
  have hO : cx.own.map Prod.fst = [] := hO
  have hX := CxIs.mk hP hN hO
  have hF := hF rfl
  show HT cx ⟨[(0, .one (.dat (.sl (.int .u8)) a0)), (1, iV a1), (2, iV a2)], [], 0⟩ _ _
  refine HT.rg2 [oH] ⟨[(0, .one (.dat (.sl (.int .u8)) a0)), (1, iV a1), (2, iV a2)], [], 0⟩ hX (by kernel_rfl) allNil ?_
  obtain ⟨y1, hc2, hr⟩ := of_bind hr
  refine HT.rg2 [oH, ⟨none, .call [.imm (.sl (.int .u8))] [⟨true, (.bx (.st (.pair (.sl (.int .u8)) (.pair tI (.int .u64))))), [y1]⟩] []⟩, oH] ⟨[(1, iV a1), (2, iV a2), (7, .one (.elp 0 0 3 0))], [(0, .seq (.st (.pair (.sl (.int .u8)) (.pair tI (.int .u64)))) ([y1]))], 1⟩ hX (by kernel_rfl) (allCons (f93_ok hc2) allNil) ?_
  obtain ⟨y3, hc4, hr⟩ := of_bind hr
  refine HT.rg2 [oH, oH, oH, ⟨none, .call [.own (.bx (.st (.pair (.sl (.int .u8)) (.pair tI (.int .u64))))), .imm tI, .imm tI] [⟨true, tLI, y3.1⟩] [⟨(.bx (.st (.pair (.sl (.int .u8)) (.pair tI (.int .u64))))), [y3.2]⟩]⟩, oH] ⟨[(6, aV 1)], [(1, .seq tI y3.1)], 2⟩ hX (by kernel_rfl) (allCons (f115_ok hc4) allNil) ?_
  have hr := of_some hr
  subst hr
  exact HT.ret ⟨[aV 1], [1], [], by kernel_rfl, by kernel_rfl, rfl, by kernel_rfl, by kernel_rfl, trivial⟩

noncomputable def impl_within (a0 : Int) (a1 : Int) (a2 : Int) : Option (Bool) :=
  (show Option (Bool) from
    bif (decide (a0 ≥ a1)) then
      some (decide (a0 ≤ a2))
    else
      some false).bind fun v1 =>
  some v1

theorem f111_ok {a0 : Int} {a1 : Int} {a2 : Int} {r : Bool} (hr : impl_within a0 a1 a2 = some r) : CallOK Try.prog 111 [.imm tI a0, .imm tI a1, .imm tI a2] [⟨false, .bool, r⟩] [] := by
  unfold impl_within at hr
  refine CallOK.of_body (ts := [(false, .bool)]) Try.func111 rfl (by kernel_rfl) (Nat.le_of_ble_eq_true (by kernel_rfl)) fun cx hP hN hO hF => ?_
  have hO : cx.own.map Prod.fst = [] := hO
  have hX := CxIs.mk hP hN hO
  have hF := hF rfl
  show HT cx ⟨[(0, iV a0), (1, iV a1), (2, iV a2)], [], 0⟩ _ _
  refine HT.rg2 [oH] ⟨[(0, iV a0), (1, iV a1), (2, iV a2)], [], 0⟩ hX (by kernel_rfl) allNil ?_
  obtain ⟨v1', hT3, hr⟩ := of_bind hr
  refine HT.join (fun (v1 : Bool) => ⟨[(6, bV v1)], [], 0⟩) (fun v => v = v1') (fun v1 hv2 => ?_) (fun cont => ?_)
  · subst hv2
    have hr := of_some hr
    subst hr
    exact HT.ret ⟨[bV v1], [], [], by kernel_rfl, by kernel_rfl, rfl, by kernel_rfl, by kernel_rfl, trivial⟩
  · rcases of_bif hT3 with ⟨hb4, hT3⟩ | ⟨hb4, hT3⟩
    · exact HT.rgK [oH, oH, oH, oH, ⟨some true, .no⟩, ⟨some true, .no⟩, ⟨some true, .no⟩, ⟨none, .tv true⟩, oH] [] [] hX (by kernel_rfl) (allCons hb4 (allCons hb4 (allCons hb4 (allCons hb4 allNil)))) (fun _ h => (qThen (h.ht (cont (decide (a0 ≤ a2)) (of_some hT3)))))
    · exact HT.rgK [oH, oH, oH, oH, ⟨some false, .no⟩, ⟨some false, .no⟩, ⟨some false, .no⟩, ⟨none, .tv false⟩, oH] [] [] hX (by kernel_rfl) (allCons hb4 (allCons hb4 (allCons hb4 (allCons hb4 allNil)))) (fun _ h => (qThen (h.ht (cont false (of_some hT3)))))

noncomputable def impl_areWithin_B1 (a0 : List Int) (a1 : Int) (a2 : Int) (s1 : Int) : Option ((Int) ⊕ (Unit ⊕ Unit)) :=
  bif (decide (s1 < (lenI a0))) then
    guardP ((0 : Int) ≤ s1 ∧ s1 < lenI a0) (
      (impl_within (List.getD a0 (Int.toNat s1) (0 : Int)) a1 a2).bind fun y10 =>
      bif (!y10) then
        some (.inr (.inr ()))
      else
        some (.inl (wadd .i64 s1 (1 : Int))))
  else
    some (.inr (.inl ()))

noncomputable def impl_areWithin (a0 : List Int) (a1 : Int) (a2 : Int) : Option (Bool) :=
  (rounds (impl_areWithin_B1 a0 a1 a2) (0 : Int)).bind fun r2 => match r2 with
    | .inl r3 =>
      some true
    | .inr r4 =>
      some false

theorem f113_ok {a0 : List Int} {a1 : Int} {a2 : Int} {r : Bool} (hr : impl_areWithin a0 a1 a2 = some r) : CallOK Try.prog 113 [.imm tLI a0, .imm tI a1, .imm tI a2] [⟨false, .bool, r⟩] [] := by
  unfold impl_areWithin at hr
  refine CallOK.of_body (ts := [(false, .bool)]) Try.func113 rfl (by kernel_rfl) (Nat.le_of_ble_eq_true (by kernel_rfl)) fun cx hP hN hO hF => ?_
  have hO : cx.own.map Prod.fst = [] := hO
  have hX := CxIs.mk hP hN hO
  have hF := hF rfl
  show HT cx ⟨[(0, nV a0), (1, iV a1), (2, iV a2)], [], 0⟩ _ _
  refine HT.rg2 [oH] ⟨[(0, nV a0), (1, iV a1), (2, iV a2)], [], 0⟩ hX (by kernel_rfl) allNil ?_
  refine HT.seq ?_
  refine HT.rg2 (oHs 3) ⟨[(1, iV a1), (2, iV a2), (9, nV a0), (10, iV (lenI a0)), (11, iV (0 : Int))], [], 0⟩ hX (by kernel_rfl) allNil ?_
  refine HT.block ?_
  obtain ⟨r2, hL13, hr⟩ := of_bind hr
  refine HT.loopL (fun (s1 : Int) => ⟨[(1, iV a1), (2, iV a2), (9, nV a0), (10, iV (lenI a0)), (11, iV s1)], [], 0⟩) (fun (r2 : Unit ⊕ Unit) => match r2 with | .inl r3 => (.exit 0, ⟨[], [], 0⟩) | .inr r4 => (.ret, ⟨[(6, bV false)], [], 0⟩)) (Le.re [] [] hX (by kernel_rfl)) hL13 ?_ (fun s1 x5 hx6 hk7 => ?_)
  · rcases r2 with r3 | r4
    · refine (qBlockX (qThen ?_))
      refine HT.rg2 [oH] ⟨[(6, bV true)], [], 0⟩ hX (by kernel_rfl) allNil ?_
      have hr := of_some hr
      subst hr
      exact HT.ret ⟨[bV true], [], [], by kernel_rfl, by kernel_rfl, rfl, by kernel_rfl, by kernel_rfl, trivial⟩
    · have hr := of_some hr
      subst hr
      exact (qBlockR (qThenR ⟨[bV false], [], [], by kernel_rfl, by kernel_rfl, rfl, by kernel_rfl, by kernel_rfl, trivial⟩))
  · refine HT.rg2 [oH] ⟨[(1, iV a1), (2, iV a2), (9, nV a0), (10, iV (lenI a0)), (11, iV s1), (12, bV (decide (s1 < (lenI a0))))], [], 0⟩ hX (by kernel_rfl) allNil ?_
    refine HT.seq ?_
    rcases of_bif hx6 with ⟨hb8, hx6⟩ | ⟨hb8, hx6⟩
    · refine HT.cond1 rfl hb8 ?_
      refine HT.skip (qThen ?_)
      refine HT.seq ?_
      refine HT.block ?_
      obtain ⟨hg9, hx6⟩ := of_guard hx6
      refine HT.rg2 (oHs 3) ⟨[(1, iV a1), (2, iV a2), (8, iV (List.getD a0 (Int.toNat s1) (0 : Int))), (9, nV a0), (10, iV (lenI a0)), (11, iV s1)], [], 0⟩ hX (by kernel_rfl) (allCons hg9 allNil) ?_
      obtain ⟨y10, hc11, hx6⟩ := of_bind hx6
      refine HT.rg2 [oH, oH, oH, ⟨none, .call [.imm tI, .imm tI, .imm tI] [⟨false, .bool, y10⟩] []⟩, oH] ⟨[(1, iV a1), (2, iV a2), (9, nV a0), (10, iV (lenI a0)), (11, iV s1), (19, bV (!y10))], [], 0⟩ hX (by kernel_rfl) (allCons (f111_ok hc11) allNil) ?_
      rcases of_bif hx6 with ⟨hb12, hx6⟩ | ⟨hb12, hx6⟩
      · refine HT.cond1 rfl hb12 ?_
        refine HT.rg2 [oH] ⟨[(6, bV false)], [], 0⟩ hX (by kernel_rfl) allNil ?_
        have hx6 := of_some hx6
        subst hx6
        exact HT.retL (Le.re [] [] hX (by kernel_rfl)) (qBlockR (qThenR (qLoopR (hk7 (.inr ()) rfl))))
      · refine HT.cond0 rfl hb12 ?_
        refine HT.skip (qBlock (qThen ?_))
        have hx6 := of_some hx6
        subst hx6
        exact HT.rgK (oHs 2) [] [] hX (by kernel_rfl) allNil (fun _ h => (qLoopN ⟨(wadd .i64 s1 (1 : Int)), rfl, h⟩))
    · refine HT.cond0 rfl hb8 ?_
      have hx6 := of_some hx6
      subst hx6
      exact HT.exitL (Le.re [] [] hX (by kernel_rfl)) (qThenE (qLoopE (hk7 (.inl ()) rfl)))

noncomputable def impl_IsWord (a0 : List Int) (a1 : Int) : Option (Bool) :=
  (show Option (Bool) from
    (impl_within a1 (1 : Int) (4 : Int)).bind fun y4 =>
    bif y4 then
      bif (decide ((lenI a0) ≤ (12 : Int))) then
        (impl_areWithin a0 (0 : Int) (wsub .i64 a1 (1 : Int))).bind fun y8 =>
        some y8
      else
        some false
    else
      some false).bind fun v1 =>
  some v1

theorem f118_ok {a0 : List Int} {a1 : Int} {r : Bool} (hr : impl_IsWord a0 a1 = some r) : CallOK Try.prog 118 [.imm tLI a0, .imm tI a1] [⟨false, .bool, r⟩] [] := by
  unfold impl_IsWord at hr
  refine CallOK.of_body (ts := [(false, .bool)]) Try.func118 rfl (by kernel_rfl) (Nat.le_of_ble_eq_true (by kernel_rfl)) fun cx hP hN hO hF => ?_
  have hO : cx.own.map Prod.fst = [] := hO
  have hX := CxIs.mk hP hN hO
  have hF := hF rfl
  show HT cx ⟨[(0, nV a0), (1, iV a1)], [], 0⟩ _ _
  refine HT.rg2 [oH] ⟨[(0, nV a0), (1, iV a1)], [], 0⟩ hX (by kernel_rfl) allNil ?_
  obtain ⟨v1', hT3, hr⟩ := of_bind hr
  refine HT.join (fun (v1 : Bool) => ⟨[(4, bV v1)], [], 0⟩) (fun v => v = v1') (fun v1 hv2 => ?_) (fun cont => ?_)
  · subst hv2
    have hr := of_some hr
    subst hr
    exact HT.ret ⟨[bV v1], [], [], by kernel_rfl, by kernel_rfl, rfl, by kernel_rfl, by kernel_rfl, trivial⟩
  · obtain ⟨y4, hc5, hT3⟩ := of_bind hT3
    rcases of_bif hT3 with ⟨hb6, hT3⟩ | ⟨hb6, hT3⟩
    · rcases of_bif hT3 with ⟨hb7, hT3⟩ | ⟨hb7, hT3⟩
      · obtain ⟨y8, hc9, hT3⟩ := of_bind hT3
        exact HT.rgK [oH, ⟨none, .call [.imm tI, .imm tI, .imm tI] [⟨false, .bool, y4⟩] []⟩, oH, ⟨some true, .no⟩, ⟨some true, .no⟩, ⟨some true, .no⟩, ⟨none, .tv true⟩, oH, ⟨some true, .no⟩, ⟨some true, .no⟩, ⟨some true, .no⟩, ⟨some true, .call [.imm tLI, .imm tI, .imm tI] [⟨false, .bool, y8⟩] []⟩, ⟨none, .tv true⟩, oH] [] [] hX (by kernel_rfl) (allCons (f111_ok hc5) (allCons hb6 (allCons hb6 (allCons hb6 (allCons hb6 (allCons hb7 (allCons hb7 (allCons hb7 (allCons hb7 (allCons (f113_ok hc9) (allCons hb7 allNil))))))))))) (fun _ h => (qThen (h.ht (cont y8 (of_some hT3)))))
      · exact HT.rgK [oH, ⟨none, .call [.imm tI, .imm tI, .imm tI] [⟨false, .bool, y4⟩] []⟩, oH, ⟨some true, .no⟩, ⟨some true, .no⟩, ⟨some true, .no⟩, ⟨none, .tv true⟩, oH, ⟨some false, .no⟩, ⟨some false, .no⟩, ⟨some false, .no⟩, ⟨some false, .no⟩, ⟨none, .tv false⟩, oH] [] [] hX (by kernel_rfl) (allCons (f111_ok hc5) (allCons hb6 (allCons hb6 (allCons hb6 (allCons hb6 (allCons hb7 (allCons hb7 (allCons hb7 (allCons hb7 (allCons hb7 allNil)))))))))) (fun _ h => (qThen (h.ht (cont false (of_some hT3)))))
    · exact HT.rgK [oH, ⟨none, .call [.imm tI, .imm tI, .imm tI] [⟨false, .bool, y4⟩] []⟩, oH, ⟨some false, .no⟩, ⟨some false, .no⟩, ⟨some false, .no⟩, ⟨none, .tv false⟩, oH, ⟨some false, .no⟩, ⟨some false, .no⟩, ⟨some false, .no⟩, ⟨some false, .no⟩, ⟨none, .tv false⟩, oH] [] [] hX (by kernel_rfl) (allCons (f111_ok hc5) (allCons hb6 (allCons hb6 (allCons hb6 (allCons hb6 (allCons (rfl : false = false) (allCons (rfl : false = false) (allCons (rfl : false = false) (allCons (rfl : false = false) (allCons (rfl : false = false) allNil)))))))))) (fun _ h => (qThen (h.ht (cont false (of_some hT3)))))

noncomputable def impl_ValidLoop (a0 : List Int × List Int) (a1 : Int) : Option (Bool) :=
  (show Option (Bool) from
    (impl_IsWord a0.1 a1).bind fun y4 =>
    bif y4 then
      (impl_IsWord a0.2 a1).bind fun y7 =>
      bif y7 then
        some (decide ((lenI a0.2) > (0 : Int)))
      else
        some false
    else
      some false).bind fun v1 =>
  some v1

theorem f37_ok {a0 : List Int × List Int} {a1 : Int} {r : Bool} (hr : impl_ValidLoop a0 a1 = some r) : CallOK Try.prog 37 [.imm (.st (.pair tLI tLI)) a0, .imm tI a1] [⟨false, .bool, r⟩] [] := by
  unfold impl_ValidLoop at hr
  refine CallOK.of_body (ts := [(false, .bool)]) Try.func37 rfl (by kernel_rfl) (Nat.le_of_ble_eq_true (by kernel_rfl)) fun cx hP hN hO hF => ?_
  have hO : cx.own.map Prod.fst = [] := hO
  have hX := CxIs.mk hP hN hO
  have hF := hF rfl
  show HT cx ⟨[(0, .agg [nC a0.1, nC a0.2]), (1, iV a1)], [], 0⟩ _ _
  refine HT.rg2 (oHs 2) ⟨[(1, iV a1), (2, pV 0 0)], [(0, .box [nC a0.1, nC a0.2])], 1⟩ hX (by kernel_rfl) allNil ?_
  obtain ⟨v1', hT3, hr⟩ := of_bind hr
  refine HT.join (fun (v1 : Bool) => ⟨[(4, bV v1)], [], 0⟩) (fun v => v = v1') (fun v1 hv2 => ?_) (fun cont => ?_)
  · subst hv2
    have hr := of_some hr
    subst hr
    exact HT.ret ⟨[bV v1], [], [], by kernel_rfl, by kernel_rfl, rfl, by kernel_rfl, by kernel_rfl, trivial⟩
  · obtain ⟨y4, hc5, hT3⟩ := of_bind hT3
    rcases of_bif hT3 with ⟨hb6, hT3⟩ | ⟨hb6, hT3⟩
    · obtain ⟨y7, hc8, hT3⟩ := of_bind hT3
      rcases of_bif hT3 with ⟨hb9, hT3⟩ | ⟨hb9, hT3⟩
      · exact HT.rgK [oH, oH, oH, ⟨none, .call [.imm tLI, .imm tI] [⟨false, .bool, y4⟩] []⟩, oH, ⟨some true, .no⟩, ⟨some true, .no⟩, ⟨some true, .no⟩, ⟨some true, .call [.imm tLI, .imm tI] [⟨false, .bool, y7⟩] []⟩, ⟨none, .tv true⟩, oH, ⟨some true, .no⟩, ⟨some true, .no⟩, ⟨some true, .no⟩, ⟨some true, .no⟩, ⟨none, .tv true⟩, oH] [] [] hX (by kernel_rfl) (allCons (f118_ok hc5) (allCons hb6 (allCons hb6 (allCons hb6 (allCons hb6 (allCons (f118_ok hc8) (allCons hb6 (allCons hb9 (allCons hb9 (allCons hb9 (allCons hb9 (allCons hb9 allNil)))))))))))) (fun _ h => (qThen (h.ht (cont (decide ((lenI a0.2) > (0 : Int))) (of_some hT3)))))
      · exact HT.rgK [oH, oH, oH, ⟨none, .call [.imm tLI, .imm tI] [⟨false, .bool, y4⟩] []⟩, oH, ⟨some true, .no⟩, ⟨some true, .no⟩, ⟨some true, .no⟩, ⟨some true, .call [.imm tLI, .imm tI] [⟨false, .bool, y7⟩] []⟩, ⟨none, .tv true⟩, oH, ⟨some false, .no⟩, ⟨some false, .no⟩, ⟨some false, .no⟩, ⟨some false, .no⟩, ⟨none, .tv false⟩, oH] [] [] hX (by kernel_rfl) (allCons (f118_ok hc5) (allCons hb6 (allCons hb6 (allCons hb6 (allCons hb6 (allCons (f118_ok hc8) (allCons hb6 (allCons hb9 (allCons hb9 (allCons hb9 (allCons hb9 (allCons hb9 allNil)))))))))))) (fun _ h => (qThen (h.ht (cont false (of_some hT3)))))
    · exact HT.rgK [oH, oH, oH, ⟨none, .call [.imm tLI, .imm tI] [⟨false, .bool, y4⟩] []⟩, oH, ⟨some false, .no⟩, ⟨some false, .no⟩, ⟨some false, .no⟩, ⟨some false, .no⟩, ⟨none, .tv false⟩, oH, ⟨some false, .no⟩, ⟨some false, .no⟩, ⟨some false, .no⟩, ⟨some false, .no⟩, ⟨none, .tv false⟩, oH] [] [] hX (by kernel_rfl) (allCons (f118_ok hc5) (allCons hb6 (allCons hb6 (allCons hb6 (allCons hb6 (allCons hb6 (allCons (rfl : false = false) (allCons (rfl : false = false) (allCons (rfl : false = false) (allCons (rfl : false = false) (allCons (rfl : false = false) allNil))))))))))) (fun _ h => (qThen (h.ht (cont false (of_some hT3)))))

theorem f105_ok {xs y : List Int} (h : slices_Clone xs = some y) : CallOK Try.prog 105 [.imm tLI xs] [⟨true, tLI, y⟩] [] := by
  obtain ⟨hg, h⟩ := of_guard h
  have h := of_some h
  subst h
  refine CallOK.of_body (ts := [(true, tLI)]) Try.func105 rfl (by kernel_rfl) (Nat.le_of_ble_eq_true (by kernel_rfl)) fun cx hP hN hO hF => ?_
  show HT cx ⟨[(0, .one (.dat tLI xs))], [], 0⟩ _ _
  refine HT.reg1 [0] [⟨none, .no⟩] ⟨[(0, .one (.dat tLI xs))], [], 0⟩ hP hN (by kernel_rfl) allNil ?_
  refine HT.seq ?_
  refine HT.isNil (t3 := 3) (t4 := 4) (v := .one (.dat tLI xs)) (t := tI) (xs := xs) (st1 := ⟨[(3, .one (.dat tLI xs)), (0, .one (.dat tLI xs))], [], 0⟩) hP hN (by kernel_rfl) rfl rfl rfl rfl (e := 2) (by kernel_rfl) rfl rfl (fun b hb => ?_)
  show HT cx ⟨[(4, .one (.dat .bool b)), (3, .one (.dat tLI xs)), (0, .one (.dat tLI xs))], [], 0⟩ _ _
  cases b with
  | true =>
    have e := hb rfl
    subst e
    refine HT.cond1 rfl rfl ?_
    refine HT.reg1 [2] [⟨none, .no⟩] ⟨[(2, .one .nilS)], [], 0⟩ hP hN (by kernel_rfl) allNil ?_
    exact HT.ret (qThenR ⟨[.one .nilS], [], [], by kernel_rfl, by kernel_rfl, rfl, by kernel_rfl, by kernel_rfl, trivial⟩)
  | false =>
    refine HT.cond0 rfl rfl ?_
    refine HT.skip (qThen ?_)
    refine HT.reg1 [2] [⟨none, .no⟩, ⟨none, .no⟩, ⟨none, .ty tI⟩, ⟨none, .no⟩] ⟨[(2, .one (.all 0))], [(0, .seq tI xs)], 1⟩ hP hN (by kernel_rfl) (allCons hg allNil) ?_
    exact HT.ret ⟨[.one (.all 0)], [0], [], by kernel_rfl, by kernel_rfl, rfl, by kernel_rfl, by kernel_rfl, trivial⟩

noncomputable def slices_Equal___int64_int64_B1 (a0 : List Int) (a1 : List Int) (s2 : Int) : Option ((Int) ⊕ (Unit ⊕ Unit)) :=
  bif (decide (s2 < (lenI a0))) then
    guardP ((0 : Int) ≤ s2 ∧ s2 < lenI a0) (
      guardP ((0 : Int) ≤ s2 ∧ s2 < lenI a1) (
        bif ((List.getD a0 (Int.toNat s2) (0 : Int)) != (List.getD a1 (Int.toNat s2) (0 : Int))) then
          some (.inr (.inr ()))
        else
          some (.inl (wadd .i64 s2 (1 : Int)))))
  else
    some (.inr (.inl ()))

noncomputable def slices_Equal___int64_int64 (a0 : List Int) (a1 : List Int) : Option (Bool) :=
  bif ((lenI a0) != (lenI a1)) then
    some false
  else
    (rounds (slices_Equal___int64_int64_B1 a0 a1) (0 : Int)).bind fun r3 => match r3 with
      | .inl r4 =>
        some true
      | .inr r5 =>
        some false

theorem f112_ok {a0 : List Int} {a1 : List Int} {r : Bool} (hr : slices_Equal___int64_int64 a0 a1 = some r) : CallOK Try.prog 112 [.imm tLI a0, .imm tLI a1] [⟨false, .bool, r⟩] [] := by
  unfold slices_Equal___int64_int64 at hr
  refine CallOK.of_body (ts := [(false, .bool)]) Try.func112 rfl (by kernel_rfl) (Nat.le_of_ble_eq_true (by kernel_rfl)) fun cx hP hN hO hF => ?_
  have hO : cx.own.map Prod.fst = [] := hO
  have hX := CxIs.mk hP hN hO
  have hF := hF rfl
  show HT cx ⟨[(0, nV a0), (1, nV a1)], [], 0⟩ _ _
  refine HT.rg2 [oH] ⟨[(0, nV a0), (1, nV a1)], [], 0⟩ hX (by kernel_rfl) allNil ?_
  refine HT.seq ?_
  refine HT.rg2 (oHs 5) ⟨[(0, nV a0), (1, nV a1), (10, bV ((lenI a0) != (lenI a1)))], [], 0⟩ hX (by kernel_rfl) allNil ?_
  rcases of_bif hr with ⟨hb1, hr⟩ | ⟨hb1, hr⟩
  · refine HT.cond1 rfl hb1 ?_
    refine HT.rg2 [oH] ⟨[(4, bV false)], [], 0⟩ hX (by kernel_rfl) allNil ?_
    have hr := of_some hr
    subst hr
    exact HT.ret (qThenR ⟨[bV false], [], [], by kernel_rfl, by kernel_rfl, rfl, by kernel_rfl, by kernel_rfl, trivial⟩)
  · refine HT.cond0 rfl hb1 ?_
    refine HT.skip (qThen ?_)
    refine HT.seq ?_
    refine HT.rg2 (oHs 3) ⟨[(0, nV a0), (1, nV a1), (12, iV (lenI a0)), (13, iV (0 : Int))], [], 0⟩ hX (by kernel_rfl) allNil ?_
    refine HT.block ?_
    obtain ⟨r3, hL13, hr⟩ := of_bind hr
    refine HT.loopL (fun (s2 : Int) => ⟨[(0, nV a0), (1, nV a1), (12, iV (lenI a0)), (13, iV s2)], [], 0⟩) (fun (r3 : Unit ⊕ Unit) => match r3 with | .inl r4 => (.exit 0, ⟨[], [], 0⟩) | .inr r5 => (.ret, ⟨[(4, bV false)], [], 0⟩)) (Le.re [] [] hX (by kernel_rfl)) hL13 ?_ (fun s2 x6 hx7 hk8 => ?_)
    · rcases r3 with r4 | r5
      · refine (qBlockX (qThen ?_))
        refine HT.rg2 [oH] ⟨[(4, bV true)], [], 0⟩ hX (by kernel_rfl) allNil ?_
        have hr := of_some hr
        subst hr
        exact HT.ret ⟨[bV true], [], [], by kernel_rfl, by kernel_rfl, rfl, by kernel_rfl, by kernel_rfl, trivial⟩
      · have hr := of_some hr
        subst hr
        exact (qBlockR (qThenR ⟨[bV false], [], [], by kernel_rfl, by kernel_rfl, rfl, by kernel_rfl, by kernel_rfl, trivial⟩))
    · refine HT.rg2 [oH] ⟨[(0, nV a0), (1, nV a1), (12, iV (lenI a0)), (13, iV s2), (14, bV (decide (s2 < (lenI a0))))], [], 0⟩ hX (by kernel_rfl) allNil ?_
      refine HT.seq ?_
      rcases of_bif hx7 with ⟨hb9, hx7⟩ | ⟨hb9, hx7⟩
      · refine HT.cond1 rfl hb9 ?_
        refine HT.skip (qThen ?_)
        refine HT.seq ?_
        refine HT.block ?_
        refine HT.rg2 (oHs 2) ⟨[(0, nV a0), (1, nV a1), (5, iV s2), (12, iV (lenI a0)), (13, iV s2)], [], 0⟩ hX (by kernel_rfl) allNil ?_
        obtain ⟨hg10, hx7⟩ := of_guard hx7
        obtain ⟨hg11, hx7⟩ := of_guard hx7
        refine HT.dr2 8 [⟨oH, []⟩, ⟨oH, []⟩, ⟨oH, [0, 1]⟩, ⟨oH, [0, 1, 2]⟩, ⟨oH, []⟩, ⟨oH, []⟩, ⟨oH, [4, 5]⟩, ⟨oH, [4, 5, 6]⟩] [[0, 1, 2, 3, 4, 5, 6, 7]] [oH] ⟨[(0, nV a0), (1, nV a1), (12, iV (lenI a0)), (13, iV s2), (24, bV ((List.getD a0 (Int.toNat s2) (0 : Int)) != (List.getD a1 (Int.toNat s2) (0 : Int))))], [], 0⟩ hX (by kernel_rfl) (by kernel_rfl) (allCons hg10 (allCons hg11 allNil)) ?_
        rcases of_bif hx7 with ⟨hb12, hx7⟩ | ⟨hb12, hx7⟩
        · refine HT.cond1 rfl hb12 ?_
          refine HT.rg2 [oH] ⟨[(4, bV false)], [], 0⟩ hX (by kernel_rfl) allNil ?_
          have hx7 := of_some hx7
          subst hx7
          exact HT.retL (Le.re [] [] hX (by kernel_rfl)) (qBlockR (qThenR (qLoopR (hk8 (.inr ()) rfl))))
        · refine HT.cond0 rfl hb12 ?_
          refine HT.skip (qBlock (qThen ?_))
          have hx7 := of_some hx7
          subst hx7
          exact HT.rgK (oHs 2) [] [] hX (by kernel_rfl) allNil (fun _ h => (qLoopN ⟨(wadd .i64 s2 (1 : Int)), rfl, h⟩))
      · refine HT.cond0 rfl hb9 ?_
        have hx7 := of_some hx7
        subst hx7
        exact HT.exitL (Le.re [] [] hX (by kernel_rfl)) (qThenE (qLoopE (hk8 (.inl ()) rfl)))

noncomputable def impl_root_B1 (a0 : List Int) (s1 : Int) : Option ((Int) ⊕ (Unit ⊕ List Int)) :=
  bif (decide (s1 < (lenI a0))) then
    (show Option (Bool) from
      guardP (s1 ≠ 0) (
        bif ((Int.tmod (lenI a0) s1) == (0 : Int)) then
          guardP ((0 : Int) ≤ s1 ∧ s1 ≤ lenI a0) (
            guardP ((0 : Int) ≤ (wsub .i64 (lenI a0) s1) ∧ (wsub .i64 (lenI a0) s1) ≤ lenI a0) (
              (slices_Equal___int64_int64 (cut a0 s1 (lenI a0)) (cut a0 (0 : Int) (wsub .i64 (lenI a0) s1))).bind fun y18 =>
              some y18))
        else
          some false)).bind fun v9 =>
    bif v9 then
      guardP ((0 : Int) ≤ s1 ∧ s1 ≤ lenI a0) (
        some (.inr (.inr (cut a0 (0 : Int) s1))))
    else
      some (.inl (wadd .i64 s1 (1 : Int)))
  else
    some (.inr (.inl ()))

noncomputable def impl_root (a0 : List Int) : Option (List Int) :=
  (rounds (impl_root_B1 a0) (1 : Int)).bind fun r2 => match r2 with
    | .inl r3 =>
      some a0
    | .inr r4 =>
      some r4

theorem f116_ok {a0 : List Int} {r : List Int} (hr : impl_root a0 = some r) : CallOK Try.prog 116 [.imm tLI a0] [⟨false, tLI, r⟩] [] := by
  unfold impl_root at hr
  refine CallOK.of_body (ts := [(false, tLI)]) Try.func116 rfl (by kernel_rfl) (Nat.le_of_ble_eq_true (by kernel_rfl)) fun cx hP hN hO hF => ?_
  have hO : cx.own.map Prod.fst = [] := hO
  have hX := CxIs.mk hP hN hO
  have hF := hF rfl
  show HT cx ⟨[(0, nV a0)], [], 0⟩ _ _
  refine HT.rg2 [oH] ⟨[(0, nV a0)], [], 0⟩ hX (by kernel_rfl) allNil ?_
  refine HT.seq ?_
  refine HT.rg2 [oH] ⟨[(0, nV a0), (3, iV (1 : Int))], [], 0⟩ hX (by kernel_rfl) allNil ?_
  refine HT.block ?_
  obtain ⟨r2, hL20, hr⟩ := of_bind hr
  refine HT.loopL (fun (s1 : Int) => ⟨[(0, nV a0), (3, iV s1)], [], 0⟩) (fun (r2 : Unit ⊕ List Int) => match r2 with | .inl r3 => (.exit 0, ⟨[(0, nV a0)], [], 0⟩) | .inr r4 => (.ret, ⟨[(2, nV r4)], [], 0⟩)) (Le.re [] [] hX (by kernel_rfl)) hL20 ?_ (fun s1 x5 hx6 hk7 => ?_)
  · rcases r2 with r3 | r4
    · refine (qBlockX (qThen ?_))
      refine HT.rg2 (oHs 2) ⟨[(2, nV a0)], [], 0⟩ hX (by kernel_rfl) allNil ?_
      have hr := of_some hr
      subst hr
      exact HT.ret ⟨[nV a0], [], [], by kernel_rfl, by kernel_rfl, rfl, by kernel_rfl, by kernel_rfl, trivial⟩
    · have hr := of_some hr
      subst hr
      exact (qBlockR (qThenR ⟨[nV r4], [], [], by kernel_rfl, by kernel_rfl, rfl, by kernel_rfl, by kernel_rfl, trivial⟩))
  · refine HT.seq ?_
    refine HT.rg2 (oHs 4) ⟨[(0, nV a0), (3, iV s1), (7, bV (decide (s1 < (lenI a0))))], [], 0⟩ hX (by kernel_rfl) allNil ?_
    rcases of_bif hx6 with ⟨hb8, hx6⟩ | ⟨hb8, hx6⟩
    · refine HT.cond1 rfl hb8 ?_
      refine HT.skip (qThen ?_)
      refine HT.seq ?_
      refine HT.block ?_
      obtain ⟨v9', hT11, hx6⟩ := of_bind hx6
      refine HT.join (fun (v9 : Bool) => ⟨[(0, nV a0), (3, iV s1), (26, bV v9)], [], 0⟩) (fun v => v = v9') (fun v9 hv10 => ?_) (fun cont => ?_)
      · subst hv10
        rcases of_bif hx6 with ⟨hb12, hx6⟩ | ⟨hb12, hx6⟩
        · refine HT.cond1 rfl hb12 ?_
          obtain ⟨hg13, hx6⟩ := of_guard hx6
          refine HT.rg2 (oHs 4) ⟨[(2, nV (cut a0 (0 : Int) s1))], [], 0⟩ hX (by kernel_rfl) (allCons (show (0 : Int) ≤ 0 ∧ (0 : Int) ≤ s1 ∧ s1 ≤ lenI a0 from ⟨Int.le_refl _, hg13.1, hg13.2⟩) allNil) ?_
          have hx6 := of_some hx6
          subst hx6
          exact HT.retL (Le.re [] [] hX (by kernel_rfl)) (qBlockR (qThenR (qLoopR (hk7 (.inr (cut a0 (0 : Int) s1)) rfl))))
        · refine HT.cond0 rfl hb12 ?_
          refine HT.skip (qBlock (qThen ?_))
          have hx6 := of_some hx6
          subst hx6
          exact HT.rgK (oHs 3) [] [] hX (by kernel_rfl) allNil (fun _ h => (qLoopN ⟨(wadd .i64 s1 (1 : Int)), rfl, h⟩))
      · obtain ⟨hg14, hT11⟩ := of_guard hT11
        rcases of_bif hT11 with ⟨hb15, hT11⟩ | ⟨hb15, hT11⟩
        · obtain ⟨hg16, hT11⟩ := of_guard hT11
          obtain ⟨hg17, hT11⟩ := of_guard hT11
          obtain ⟨y18, hc19, hT11⟩ := of_bind hT11
          exact HT.drK 15 [⟨oH, []⟩, ⟨oH, [0]⟩, ⟨oH, []⟩, ⟨oH, [0, 1, 2]⟩, ⟨oH, [0, 1, 2, 3]⟩, ⟨oH, [0, 1, 2, 3, 4]⟩, ⟨⟨some true, .no⟩, [0, 1, 2, 3, 4, 5]⟩, ⟨⟨some true, .no⟩, [0, 1, 2, 3, 4, 5]⟩, ⟨⟨some true, .no⟩, [0, 1, 2, 3, 4, 5, 6, 7]⟩, ⟨⟨some true, .no⟩, [0, 1, 2, 3, 4, 5]⟩, ⟨⟨some true, .no⟩, [0, 1, 2, 3, 4, 5]⟩, ⟨⟨some true, .no⟩, [0, 1, 2, 3, 4, 5, 10]⟩, ⟨⟨some true, .no⟩, [0, 1, 2, 3, 4, 5]⟩, ⟨⟨some true, .no⟩, [0, 1, 2, 3, 4, 5, 10, 11, 12]⟩, ⟨⟨some true, .no⟩, [0, 1, 2, 3, 4, 5, 9, 10, 11, 12, 13]⟩] [[0, 1, 2, 3, 4, 5, 6, 7, 8, 9, 10, 11, 12, 13, 14], [0, 1, 2, 3, 4, 5, 6, 7, 8, 9, 10, 11, 12, 13, 14, 15]] [⟨some true, .call [.imm tLI, .imm tLI] [⟨false, .bool, y18⟩] []⟩, ⟨none, .tv true⟩] [] [] hX (by kernel_rfl) (by kernel_rfl) (allCons hg14 (allCons hb15 (allCons hb15 (allCons hb15 (allCons (show (0 : Int) ≤ s1 ∧ s1 ≤ lenI a0 ∧ lenI a0 ≤ lenI a0 from ⟨hg16.1, hg16.2, Int.le_refl _⟩) (allCons hb15 (allCons hb15 (allCons hb15 (allCons hb15 (allCons hb15 (allCons hb15 (allCons (show (0 : Int) ≤ 0 ∧ (0 : Int) ≤ (wsub .i64 (lenI a0) s1) ∧ (wsub .i64 (lenI a0) s1) ≤ lenI a0 from ⟨Int.le_refl _, hg17.1, hg17.2⟩) (allCons hb15 (allCons (f112_ok hc19) (allCons hb15 allNil))))))))))))))) (fun _ h => (qThen (h.ht (cont y18 (of_some hT11)))))
        · exact HT.drK 15 [⟨oH, []⟩, ⟨oH, [0]⟩, ⟨oH, []⟩, ⟨oH, [0, 1, 2]⟩, ⟨oH, [0, 1, 2, 3]⟩, ⟨oH, [0, 1, 2, 3, 4]⟩, ⟨⟨some false, .no⟩, [0, 1, 2, 3, 4, 5]⟩, ⟨⟨some false, .no⟩, [0, 1, 2, 3, 4, 5]⟩, ⟨⟨some false, .no⟩, [0, 1, 2, 3, 4, 5, 6, 7]⟩, ⟨⟨some false, .no⟩, [0, 1, 2, 3, 4, 5]⟩, ⟨⟨some false, .no⟩, [0, 1, 2, 3, 4, 5]⟩, ⟨⟨some false, .no⟩, [0, 1, 2, 3, 4, 5, 10]⟩, ⟨⟨some false, .no⟩, [0, 1, 2, 3, 4, 5]⟩, ⟨⟨some false, .no⟩, [0, 1, 2, 3, 4, 5, 10, 11, 12]⟩, ⟨⟨some false, .no⟩, [0, 1, 2, 3, 4, 5, 9, 10, 11, 12, 13]⟩] [[0, 1, 2, 3, 4, 5, 6, 7, 8, 9, 10, 11, 12, 13, 14], [0, 1, 2, 3, 4, 5, 6, 7, 8, 9, 10, 11, 12, 13, 14, 15]] [⟨some false, .no⟩, ⟨none, .tv false⟩] [] [] hX (by kernel_rfl) (by kernel_rfl) (allCons hg14 (allCons hb15 (allCons hb15 (allCons hb15 (allCons hb15 (allCons hb15 (allCons hb15 (allCons hb15 (allCons hb15 (allCons hb15 (allCons hb15 (allCons hb15 allNil)))))))))))) (fun _ h => (qThen (h.ht (cont false (of_some hT11)))))
    · refine HT.cond0 rfl hb8 ?_
      have hx6 := of_some hx6
      subst hx6
      exact HT.exitL (Le.re [] [] hX (by kernel_rfl)) (qThenE (qLoopE (hk7 (.inl ()) rfl)))

noncomputable def impl_NormalLoop_B1  (s10 : List Int × List Int) : Option ((List Int × List Int) ⊕ ((List Int × List Int))) :=
  (show Option (Bool) from
    bif (decide ((lenI s10.1) > (0 : Int))) then
      guardP ((0 : Int) ≤ (wsub .i64 (lenI s10.1) (1 : Int)) ∧ (wsub .i64 (lenI s10.1) (1 : Int)) < lenI s10.1) (
        guardP ((0 : Int) ≤ (wsub .i64 (lenI s10.2) (1 : Int)) ∧ (wsub .i64 (lenI s10.2) (1 : Int)) < lenI s10.2) (
          some ((List.getD s10.1 (Int.toNat (wsub .i64 (lenI s10.1) (1 : Int))) (0 : Int)) == (List.getD s10.2 (Int.toNat (wsub .i64 (lenI s10.2) (1 : Int))) (0 : Int)))))
    else
      some false).bind fun v16 =>
  bif v16 then
    guardP ((0 : Int) ≤ (wsub .i64 (lenI s10.2) (1 : Int)) ∧ (wsub .i64 (lenI s10.2) (1 : Int)) < lenI s10.2) (
      guardP ((0 : Int) ≤ (wsub .i64 (lenI s10.2) (1 : Int)) ∧ (wsub .i64 (lenI s10.2) (1 : Int)) ≤ lenI s10.2) (
        guardP (List.length ([(List.getD s10.2 (Int.toNat (wsub .i64 (lenI s10.2) (1 : Int))) (0 : Int))] : List Int) + List.length (List.take (Int.toNat (wsub .i64 (lenI s10.2) (1 : Int))) (List.drop 0 s10.2)) ≤ appMax) (
          (some (([(List.getD s10.2 (Int.toNat (wsub .i64 (lenI s10.2) (1 : Int))) (0 : Int))] : List Int) ++ (List.take (Int.toNat (wsub .i64 (lenI s10.2) (1 : Int))) (List.drop 0 s10.2)))).bind fun q23 =>
          guardP ((0 : Int) ≤ (wsub .i64 (lenI s10.1) (1 : Int)) ∧ (wsub .i64 (lenI s10.1) (1 : Int)) ≤ lenI s10.1) (
            some (.inl ((List.take (Int.toNat (wsub .i64 (lenI s10.1) (1 : Int))) s10.1), q23))))))
  else
    some (.inr (s10.1, s10.2))

noncomputable def impl_NormalLoop (a0 : List Int × List Int) (a1 : Int) : Option ((List Int × List Int) × Bool) :=
  (impl_ValidLoop (a0.1, a0.2) a1).bind fun y1 =>
  bif (!y1) then
    some ((([] : List Int), ([] : List Int)), false)
  else
    (slices_Clone a0.1).bind fun y4 =>
    (impl_root a0.2).bind fun y6 =>
    (slices_Clone y6).bind fun y8 =>
    (rounds (impl_NormalLoop_B1) (y4, y8)).bind fun r12 =>
    some ((r12.1, r12.2), true)

theorem f35_ok {a0 : List Int × List Int} {a1 : Int} {r : (List Int × List Int) × Bool} (hr : impl_NormalLoop a0 a1 = some r) : CallOK Try.prog 35 [.imm (.st (.pair tLI tLI)) a0, .imm tI a1] [⟨true, (.st (.pair tLI tLI)), r.1⟩, ⟨false, .bool, r.2⟩] [] := by
  unfold impl_NormalLoop at hr
  refine CallOK.of_body (ts := [(true, (.st (.pair tLI tLI))), (false, .bool)]) Try.func35 rfl (by kernel_rfl) (Nat.le_of_ble_eq_true (by kernel_rfl)) fun cx hP hN hO hF => ?_
  have hO : cx.own.map Prod.fst = [] := hO
  have hX := CxIs.mk hP hN hO
  have hF := hF rfl
  show HT cx ⟨[(0, .agg [nC a0.1, nC a0.2]), (1, iV a1)], [], 0⟩ _ _
  refine HT.rg2 (oHs 3) ⟨[(1, iV a1), (2, pV 0 0), (4, pV 1 0)], [(1, .box [.nilS, .nilS]), (0, .box [nC a0.1, nC a0.2])], 2⟩ hX (by kernel_rfl) allNil ?_
  refine HT.seq ?_
  obtain ⟨y1, hc2, hr⟩ := of_bind hr
  refine HT.rg2 [oH, oH, ⟨none, .call [.imm (.st (.pair tLI tLI)), .imm tI] [⟨false, .bool, y1⟩] []⟩, oH] ⟨[(2, pV 0 0), (4, pV 1 0), (12, bV (!y1))], [(1, .box [.nilS, .nilS]), (0, .box [nC a0.1, nC a0.2])], 2⟩ hX (by kernel_rfl) (allCons (f37_ok hc2) allNil) ?_
  rcases of_bif hr with ⟨hb3, hr⟩ | ⟨hb3, hr⟩
  · refine HT.cond1 rfl hb3 ?_
    refine HT.rg2 (oHs 3) ⟨[(4, pV 1 0), (5, bV false)], [(1, .box [.nilS, .nilS])], 2⟩ hX (by kernel_rfl) allNil ?_
    have hr := of_some hr
    subst hr
    exact HT.ret (qThenR ⟨[.agg [.nilS, .nilS], bV false], [], [], by kernel_rfl, by kernel_rfl, rfl, by kernel_rfl, by kernel_rfl, trivial⟩)
  · refine HT.cond0 rfl hb3 ?_
    refine HT.skip (qThen ?_)
    obtain ⟨y4, hc5, hr⟩ := of_bind hr
    obtain ⟨y6, hc7, hr⟩ := of_bind hr
    obtain ⟨y8, hc9, hr⟩ := of_bind hr
    refine HT.dr2 5 [⟨oH, []⟩, ⟨oH, [0]⟩, ⟨⟨none, .call [.imm tLI] [⟨true, tLI, y4⟩] []⟩, [0, 1]⟩, ⟨oH, []⟩, ⟨oH, [3]⟩] [[0, 1, 2, 3, 4], [0, 1, 2, 3, 4, 5], [0, 1, 2, 3, 4, 5, 6], [0, 1, 2, 3, 4, 5, 6, 7]] [⟨none, .call [.imm tLI] [⟨false, tLI, y6⟩] []⟩, ⟨none, .call [.imm tLI] [⟨true, tLI, y8⟩] []⟩, oH, oH] ⟨[(4, pV 1 0), (6, aV 2), (7, aV 3)], [(3, .seq tI y8), (2, .seq tI y4), (1, .box [.nilS, .nilS])], 4⟩ hX (by kernel_rfl) (by kernel_rfl) (allCons (f105_ok hc5) (allCons (f116_ok hc7) (allCons (f105_ok hc9) allNil))) ?_
    refine HT.seq ?_
    refine HT.block ?_
    obtain ⟨r11, hL29, hr⟩ := of_bind hr
    refine HT.loopL (fun (s10 : List Int × List Int) => ⟨[(4, pV 0 0), (6, aV 1), (7, aV 2)], [(0, .box [.nilS, .nilS]), (1, .seq tI s10.1), (2, .seq tI s10.2)], 3⟩) (fun (r12 : (List Int × List Int)) => (.exit 0, ⟨[(4, pV 0 0), (6, aV 1), (7, aV 2)], [(0, .box [.nilS, .nilS]), (1, .seq tI r12.1), (2, .seq tI r12.2)], 3⟩)) (Le.re [(1, 0), (2, 1), (3, 2)] [] hX (by kernel_rfl)) hL29 ?_ (fun s10 x13 hx14 hk15 => ?_)
    · refine (qBlockX (qThen ?_))
      refine HT.rg2 (oHs 5) ⟨[(4, pV 0 0), (5, bV true)], [(0, .box [.all 1, .all 2]), (1, .seq tI r11.1), (2, .seq tI r11.2)], 3⟩ hX (by kernel_rfl) allNil ?_
      have hr := of_some hr
      subst hr
      exact HT.ret ⟨[.agg [.all 1, .all 2], bV true], [1, 2], [], by kernel_rfl, by kernel_rfl, rfl, by kernel_rfl, by kernel_rfl, trivial⟩
    · refine HT.seq ?_
      obtain ⟨v16', hT18, hx14⟩ := of_bind hx14
      refine HT.join (fun (v16 : Bool) => ⟨[(4, pV 0 0), (6, aV 1), (7, aV 2), (38, bV v16)], [(0, .box [.nilS, .nilS]), (1, .seq tI s10.1), (2, .seq tI s10.2)], 3⟩) (fun v => v = v16') (fun v16 hv17 => ?_) (fun cont => ?_)
      · subst hv17
        rcases of_bif hx14 with ⟨hb19, hx14⟩ | ⟨hb19, hx14⟩
        · refine HT.cond1 rfl hb19 ?_
          refine HT.skip (qThen ?_)
          refine HT.block ?_
          refine HT.rg2 (oHs 4) ⟨[(4, pV 0 0), (6, aV 1), (7, aV 2), (8, iV (wsub .i64 (lenI s10.2) (1 : Int)))], [(0, .box [.nilS, .nilS]), (1, .seq tI s10.1), (2, .seq tI s10.2)], 3⟩ hX (by kernel_rfl) allNil ?_
          obtain ⟨hg20, hx14⟩ := of_guard hx14
          obtain ⟨hg21, hx14⟩ := of_guard hx14
          obtain ⟨hg22, hx14⟩ := of_guard hx14
          refine HT.dr2 8 [⟨oH, []⟩, ⟨oH, []⟩, ⟨oH, [0, 1]⟩, ⟨oH, [0, 1, 2]⟩, ⟨⟨none, .ty tI⟩, [0, 1, 2, 3]⟩, ⟨oH, []⟩, ⟨oH, []⟩, ⟨oH, [5, 6]⟩] [[0, 1, 2, 3, 4, 5, 6, 7], [0, 1, 2, 3, 4, 5, 6, 7, 8]] [⟨none, .ty tI⟩, oH] ⟨[(4, pV 0 0), (6, aV 1), (7, aV 4)], [(4, .seq tI (([(List.getD s10.2 (Int.toNat (wsub .i64 (lenI s10.2) (1 : Int))) (0 : Int))] : List Int) ++ (List.take (Int.toNat (wsub .i64 (lenI s10.2) (1 : Int))) (List.drop 0 s10.2)))), (0, .box [.nilS, .nilS]), (1, .seq tI s10.1)], 5⟩ hX (by kernel_rfl) (by kernel_rfl) (allCons hg20 (allCons (natLt hg20) (allCons (show (0 : Int) ≤ 0 ∧ (0 : Int) ≤ (wsub .i64 (lenI s10.2) (1 : Int)) ∧ (wsub .i64 (lenI s10.2) (1 : Int)) ≤ lenI s10.2 from ⟨Int.le_refl _, hg21.1, hg21.2⟩) (allCons hg22 allNil)))) ?_
          obtain ⟨q23, hq24, hx14⟩ := of_bind hx14
          have hq24 := of_some2 hq24
          refine (Le.cv (s := ⟨[(4, 4), (0, 0), (1, 1)], [], [], false⟩) (own := []) (ps := [q23 = (([(List.getD s10.2 (Int.toNat (wsub .i64 (lenI s10.2) (1 : Int))) (0 : Int))] : List Int) ++ (List.take (Int.toNat (wsub .i64 (lenI s10.2) (1 : Int))) (List.drop 0 s10.2))), s10.1 = s10.1]) (st' := ⟨[(4, pV 0 0), (6, aV 1), (7, aV 4)], [(4, .seq tI q23), (0, .box [.nilS, .nilS]), (1, .seq tI s10.1)], 5⟩) hO (fun h => by cases h) (by kernel_rfl) ⟨hq24, rfl, trivial⟩).ht ?_
          obtain ⟨hg25, hx14⟩ := of_guard hx14
          have hx14 := of_some hx14
          subst hx14
          refine HT.rgL (oHs 6) ⟨[(4, pV 0 0), (6, .one (.ref 1 0 (Int.toNat (wsub .i64 (lenI s10.1) (1 : Int))))), (7, aV 4)], [(4, .seq tI q23), (0, .box [.nilS, .nilS]), (1, .seq tI s10.1)], 5⟩ hX (by kernel_rfl) (allCons (show (0 : Int) ≤ 0 ∧ (0 : Int) ≤ (wsub .i64 (lenI s10.1) (1 : Int)) ∧ (wsub .i64 (lenI s10.1) (1 : Int)) ≤ lenI s10.1 from ⟨Int.le_refl _, hg25.1, hg25.2⟩) allNil) (qBlock (qLoopN ⟨((List.take (Int.toNat (wsub .i64 (lenI s10.1) (1 : Int))) s10.1), q23), rfl, Le.cv (s := ⟨[(0, 0), (1, 1), (4, 2)], [], [1], false⟩) (own := []) (ps := [0 = 0, List.length (List.take (Int.toNat (wsub .i64 (lenI s10.1) (1 : Int))) s10.1) = Int.toNat (wsub .i64 (lenI s10.1) (1 : Int)), (List.take (Int.toNat (wsub .i64 (lenI s10.1) (1 : Int))) s10.1) = List.take (List.length (List.take (Int.toNat (wsub .i64 (lenI s10.1) (1 : Int))) s10.1)) s10.1, q23 = q23]) (st' := ⟨[(4, pV 0 0), (6, aV 1), (7, aV 2)], [(0, .box [.nilS, .nilS]), (1, .seq tI (List.take (Int.toNat (wsub .i64 (lenI s10.1) (1 : Int))) s10.1)), (2, .seq tI q23)], 3⟩) hO (fun h => by cases h) (by kernel_rfl) ⟨rfl, (trunc1 hg25), (trunc2 _ _), rfl, trivial⟩⟩))
        · refine HT.cond0 rfl hb19 ?_
          have hx14 := of_some hx14
          subst hx14
          exact HT.exitL (Le.re [(0, 0), (1, 1), (2, 2)] [] hX (by kernel_rfl)) (qThenE (qLoopE (hk15 (s10.1, s10.2) rfl)))
      · rcases of_bif hT18 with ⟨hb26, hT18⟩ | ⟨hb26, hT18⟩
        · obtain ⟨hg27, hT18⟩ := of_guard hT18
          obtain ⟨hg28, hT18⟩ := of_guard hT18
          exact HT.drK 16 [⟨oH, []⟩, ⟨oH, [0]⟩, ⟨oH, [0, 1]⟩, ⟨oH, [0, 1, 2]⟩, ⟨⟨some true, .no⟩, [0, 1, 2, 3]⟩, ⟨⟨some true, .no⟩, [0, 1, 2, 3]⟩, ⟨⟨some true, .no⟩, [0, 1, 2, 3, 5]⟩, ⟨⟨some true, .no⟩, [0, 1, 2, 3, 5, 6]⟩, ⟨⟨some true, .no⟩, [0, 1, 2, 3, 4, 5, 6, 7]⟩, ⟨⟨some true, .no⟩, [0, 1, 2, 3, 4, 5, 6, 7, 8]⟩, ⟨⟨some true, .no⟩, [0, 1, 2, 3]⟩, ⟨⟨some true, .no⟩, [0, 1, 2, 3]⟩, ⟨⟨some true, .no⟩, [0, 1, 2, 3, 11]⟩, ⟨⟨some true, .no⟩, [0, 1, 2, 3, 11, 12]⟩, ⟨⟨some true, .no⟩, [0, 1, 2, 3, 10, 11, 12, 13]⟩, ⟨⟨some true, .no⟩, [0, 1, 2, 3, 10, 11, 12, 13, 14]⟩] [[0, 1, 2, 3, 4, 5, 6, 7, 8, 9, 10, 11, 12, 13, 14, 15], [0, 1, 2, 3, 4, 5, 6, 7, 8, 9, 10, 11, 12, 13, 14, 15, 16]] [⟨some true, .no⟩, ⟨none, .tv true⟩] [(0, 0), (1, 1), (2, 2)] [] hX (by kernel_rfl) (by kernel_rfl) (allCons hb26 (allCons hb26 (allCons hb26 (allCons hb26 (allCons hb26 (allCons hg27 (allCons hb26 (allCons (natLt hg27) (allCons hb26 (allCons hb26 (allCons hb26 (allCons hb26 (allCons hb26 (allCons hg28 (allCons hb26 (allCons (natLt hg28) (allCons hb26 (allCons hb26 allNil)))))))))))))))))) (fun _ h => (qThen (h.ht (cont ((List.getD s10.1 (Int.toNat (wsub .i64 (lenI s10.1) (1 : Int))) (0 : Int)) == (List.getD s10.2 (Int.toNat (wsub .i64 (lenI s10.2) (1 : Int))) (0 : Int))) (of_some hT18)))))
        · exact HT.drK 16 [⟨oH, []⟩, ⟨oH, [0]⟩, ⟨oH, [0, 1]⟩, ⟨oH, [0, 1, 2]⟩, ⟨⟨some false, .no⟩, [0, 1, 2, 3]⟩, ⟨⟨some false, .no⟩, [0, 1, 2, 3]⟩, ⟨⟨some false, .no⟩, [0, 1, 2, 3, 5]⟩, ⟨⟨some false, .no⟩, [0, 1, 2, 3, 5, 6]⟩, ⟨⟨some false, .no⟩, [0, 1, 2, 3, 4, 5, 6, 7]⟩, ⟨⟨some false, .no⟩, [0, 1, 2, 3, 4, 5, 6, 7, 8]⟩, ⟨⟨some false, .no⟩, [0, 1, 2, 3]⟩, ⟨⟨some false, .no⟩, [0, 1, 2, 3]⟩, ⟨⟨some false, .no⟩, [0, 1, 2, 3, 11]⟩, ⟨⟨some false, .no⟩, [0, 1, 2, 3, 11, 12]⟩, ⟨⟨some false, .no⟩, [0, 1, 2, 3, 10, 11, 12, 13]⟩, ⟨⟨some false, .no⟩, [0, 1, 2, 3, 10, 11, 12, 13, 14]⟩] [[0, 1, 2, 3, 4, 5, 6, 7, 8, 9, 10, 11, 12, 13, 14, 15], [0, 1, 2, 3, 4, 5, 6, 7, 8, 9, 10, 11, 12, 13, 14, 15, 16]] [⟨some false, .no⟩, ⟨none, .tv false⟩] [(0, 0), (1, 1), (2, 2)] [] hX (by kernel_rfl) (by kernel_rfl) (allCons hb26 (allCons hb26 (allCons hb26 (allCons hb26 (allCons hb26 (allCons hb26 (allCons hb26 (allCons hb26 (allCons hb26 (allCons hb26 (allCons hb26 (allCons hb26 (allCons hb26 (allCons hb26 allNil)))))))))))))) (fun _ h => (qThen (h.ht (cont false (of_some hT18)))))

noncomputable def spec_l00In (a0 : Int) (a1 : Int) (a2 : Int) : Option (Bool) :=
  (show Option (Bool) from
    bif (decide (a0 ≥ a1)) then
      some (decide (a0 ≤ a2))
    else
      some false).bind fun v1 =>
  some v1

theorem f114_ok {a0 : Int} {a1 : Int} {a2 : Int} {r : Bool} (hr : spec_l00In a0 a1 a2 = some r) : CallOK Try.prog 114 [.imm tI a0, .imm tI a1, .imm tI a2] [⟨false, .bool, r⟩] [] := by
  unfold spec_l00In at hr
  refine CallOK.of_body (ts := [(false, .bool)]) Try.func114 rfl (by kernel_rfl) (Nat.le_of_ble_eq_true (by kernel_rfl)) fun cx hP hN hO hF => ?_
  have hO : cx.own.map Prod.fst = [] := hO
  have hX := CxIs.mk hP hN hO
  have hF := hF rfl
  show HT cx ⟨[(0, iV a0), (1, iV a1), (2, iV a2)], [], 0⟩ _ _
  refine HT.rg2 [oH] ⟨[(0, iV a0), (1, iV a1), (2, iV a2)], [], 0⟩ hX (by kernel_rfl) allNil ?_
  obtain ⟨v1', hT3, hr⟩ := of_bind hr
  refine HT.join (fun (v1 : Bool) => ⟨[(6, bV v1)], [], 0⟩) (fun v => v = v1') (fun v1 hv2 => ?_) (fun cont => ?_)
  · subst hv2
    have hr := of_some hr
    subst hr
    exact HT.ret ⟨[bV v1], [], [], by kernel_rfl, by kernel_rfl, rfl, by kernel_rfl, by kernel_rfl, trivial⟩
  · rcases of_bif hT3 with ⟨hb4, hT3⟩ | ⟨hb4, hT3⟩
    · exact HT.rgK [oH, oH, oH, oH, ⟨some true, .no⟩, ⟨some true, .no⟩, ⟨some true, .no⟩, ⟨none, .tv true⟩, oH] [] [] hX (by kernel_rfl) (allCons hb4 (allCons hb4 (allCons hb4 (allCons hb4 allNil)))) (fun _ h => (qThen (h.ht (cont (decide (a0 ≤ a2)) (of_some hT3)))))
    · exact HT.rgK [oH, oH, oH, oH, ⟨some false, .no⟩, ⟨some false, .no⟩, ⟨some false, .no⟩, ⟨none, .tv false⟩, oH] [] [] hX (by kernel_rfl) (allCons hb4 (allCons hb4 (allCons hb4 (allCons hb4 allNil)))) (fun _ h => (qThen (h.ht (cont false (of_some hT3)))))

noncomputable def spec_l02Word_B1 (a0 : List Int) (a1 : Int) (s1 : Int) : Option ((Int) ⊕ (Unit ⊕ Unit)) :=
  bif (decide (s1 < (lenI a0))) then
    guardP ((0 : Int) ≤ s1 ∧ s1 < lenI a0) (
      (spec_l00In (List.getD a0 (Int.toNat s1) (0 : Int)) (0 : Int) (wsub .i64 a1 (1 : Int))).bind fun y10 =>
      bif (!y10) then
        some (.inr (.inr ()))
      else
        some (.inl (wadd .i64 s1 (1 : Int))))
  else
    some (.inr (.inl ()))

noncomputable def spec_l02Word (a0 : List Int) (a1 : Int) : Option (Bool) :=
  (rounds (spec_l02Word_B1 a0 a1) (0 : Int)).bind fun r2 => match r2 with
    | .inl r3 =>
      some (decide ((lenI a0) ≤ (12 : Int)))
    | .inr r4 =>
      some false

theorem f197_ok {a0 : List Int} {a1 : Int} {r : Bool} (hr : spec_l02Word a0 a1 = some r) : CallOK Try.prog 197 [.imm tLI a0, .imm tI a1] [⟨false, .bool, r⟩] [] := by
  unfold spec_l02Word at hr
  refine CallOK.of_body (ts := [(false, .bool)]) Try.func197 rfl (by kernel_rfl) (Nat.le_of_ble_eq_true (by kernel_rfl)) fun cx hP hN hO hF => ?_
  have hO : cx.own.map Prod.fst = [] := hO
  have hX := CxIs.mk hP hN hO
  have hF := hF rfl
  show HT cx ⟨[(0, nV a0), (1, iV a1)], [], 0⟩ _ _
  refine HT.rg2 [oH] ⟨[(0, nV a0), (1, iV a1)], [], 0⟩ hX (by kernel_rfl) allNil ?_
  refine HT.seq ?_
  refine HT.rg2 [oH] ⟨[(0, nV a0), (1, iV a1), (5, iV (0 : Int))], [], 0⟩ hX (by kernel_rfl) allNil ?_
  refine HT.block ?_
  obtain ⟨r2, hL13, hr⟩ := of_bind hr
  refine HT.loopL (fun (s1 : Int) => ⟨[(0, nV a0), (1, iV a1), (5, iV s1)], [], 0⟩) (fun (r2 : Unit ⊕ Unit) => match r2 with | .inl r3 => (.exit 0, ⟨[(0, nV a0)], [], 0⟩) | .inr r4 => (.ret, ⟨[(4, bV false)], [], 0⟩)) (Le.re [] [] hX (by kernel_rfl)) hL13 ?_ (fun s1 x5 hx6 hk7 => ?_)
  · rcases r2 with r3 | r4
    · refine (qBlockX (qThen ?_))
      refine HT.rg2 (oHs 4) ⟨[(4, bV (decide ((lenI a0) ≤ (12 : Int))))], [], 0⟩ hX (by kernel_rfl) allNil ?_
      have hr := of_some hr
      subst hr
      exact HT.ret ⟨[bV (decide ((lenI a0) ≤ (12 : Int)))], [], [], by kernel_rfl, by kernel_rfl, rfl, by kernel_rfl, by kernel_rfl, trivial⟩
    · have hr := of_some hr
      subst hr
      exact (qBlockR (qThenR ⟨[bV false], [], [], by kernel_rfl, by kernel_rfl, rfl, by kernel_rfl, by kernel_rfl, trivial⟩))
  · refine HT.seq ?_
    refine HT.rg2 (oHs 4) ⟨[(0, nV a0), (1, iV a1), (5, iV s1), (9, bV (decide (s1 < (lenI a0))))], [], 0⟩ hX (by kernel_rfl) allNil ?_
    rcases of_bif hx6 with ⟨hb8, hx6⟩ | ⟨hb8, hx6⟩
    · refine HT.cond1 rfl hb8 ?_
      refine HT.skip (qThen ?_)
      refine HT.seq ?_
      refine HT.block ?_
      obtain ⟨hg9, hx6⟩ := of_guard hx6
      obtain ⟨y10, hc11, hx6⟩ := of_bind hx6
      refine HT.rg2 [oH, oH, oH, oH, oH, oH, ⟨none, .call [.imm tI, .imm tI, .imm tI] [⟨false, .bool, y10⟩] []⟩, oH] ⟨[(0, nV a0), (1, iV a1), (5, iV s1), (19, bV (!y10))], [], 0⟩ hX (by kernel_rfl) (allCons hg9 (allCons (f114_ok hc11) allNil)) ?_
      rcases of_bif hx6 with ⟨hb12, hx6⟩ | ⟨hb12, hx6⟩
      · refine HT.cond1 rfl hb12 ?_
        refine HT.rg2 [oH] ⟨[(4, bV false)], [], 0⟩ hX (by kernel_rfl) allNil ?_
        have hx6 := of_some hx6
        subst hx6
        exact HT.retL (Le.re [] [] hX (by kernel_rfl)) (qBlockR (qThenR (qLoopR (hk7 (.inr ()) rfl))))
      · refine HT.cond0 rfl hb12 ?_
        refine HT.skip (qBlock (qThen ?_))
        have hx6 := of_some hx6
        subst hx6
        exact HT.rgK (oHs 3) [] [] hX (by kernel_rfl) allNil (fun _ h => (qLoopN ⟨(wadd .i64 s1 (1 : Int)), rfl, h⟩))
    · refine HT.cond0 rfl hb8 ?_
      have hx6 := of_some hx6
      subst hx6
      exact HT.exitL (Le.re [] [] hX (by kernel_rfl)) (qThenE (qLoopE (hk7 (.inl ()) rfl)))

noncomputable def spec_l07Loop (a0 : List Int × List Int) (a1 : Int) : Option (Bool) :=
  (show Option (Bool) from
    (spec_l00In a1 (1 : Int) (4 : Int)).bind fun y4 =>
    bif y4 then
      (spec_l02Word a0.1 a1).bind fun y7 =>
      bif y7 then
        (spec_l02Word a0.2 a1).bind fun y10 =>
        bif y10 then
          some (decide ((lenI a0.2) ≥ (1 : Int)))
        else
          some false
      else
        some false
    else
      some false).bind fun v1 =>
  some v1

theorem f117_ok {a0 : List Int × List Int} {a1 : Int} {r : Bool} (hr : spec_l07Loop a0 a1 = some r) : CallOK Try.prog 117 [.pimm (.st (.pair tLI tLI)) a0, .imm tI a1] [⟨false, .bool, r⟩] [] := by
  unfold spec_l07Loop at hr
  refine CallOK.of_body (ts := [(false, .bool)]) Try.func117 rfl (by kernel_rfl) (Nat.le_of_ble_eq_true (by kernel_rfl)) fun cx hP hN hO hF => ?_
  have hO : cx.own.map Prod.fst = [] := hO
  have hX := CxIs.mk hP hN hO
  have hF := hF rfl
  show HT cx ⟨[(0, .one (.ip (.st (.pair tLI tLI)) a0 0)), (1, iV a1)], [], 0⟩ _ _
  refine HT.rg2 [oH] ⟨[(0, .one (.ip (.st (.pair tLI tLI)) a0 0)), (1, iV a1)], [], 0⟩ hX (by kernel_rfl) allNil ?_
  obtain ⟨v1', hT3, hr⟩ := of_bind hr
  refine HT.join (fun (v1 : Bool) => ⟨[(4, bV v1)], [], 0⟩) (fun v => v = v1') (fun v1 hv2 => ?_) (fun cont => ?_)
  · subst hv2
    have hr := of_some hr
    subst hr
    exact HT.ret ⟨[bV v1], [], [], by kernel_rfl, by kernel_rfl, rfl, by kernel_rfl, by kernel_rfl, trivial⟩
  · obtain ⟨y4, hc5, hT3⟩ := of_bind hT3
    rcases of_bif hT3 with ⟨hb6, hT3⟩ | ⟨hb6, hT3⟩
    · obtain ⟨y7, hc8, hT3⟩ := of_bind hT3
      rcases of_bif hT3 with ⟨hb9, hT3⟩ | ⟨hb9, hT3⟩
      · obtain ⟨y10, hc11, hT3⟩ := of_bind hT3
        rcases of_bif hT3 with ⟨hb12, hT3⟩ | ⟨hb12, hT3⟩
        · exact HT.rgK [oH, ⟨none, .call [.imm tI, .imm tI, .imm tI] [⟨false, .bool, y4⟩] []⟩, oH, ⟨some true, .no⟩, ⟨some true, .no⟩, ⟨some true, .no⟩, ⟨some true, .no⟩, ⟨some true, .no⟩, ⟨some true, .call [.imm tLI, .imm tI] [⟨false, .bool, y7⟩] []⟩, ⟨none, .tv true⟩, oH, ⟨some true, .no⟩, ⟨some true, .no⟩, ⟨some true, .no⟩, ⟨some true, .no⟩, ⟨some true, .no⟩, ⟨some true, .call [.imm tLI, .imm tI] [⟨false, .bool, y10⟩] []⟩, ⟨none, .tv true⟩, oH, ⟨some true, .no⟩, ⟨some true, .no⟩, ⟨some true, .no⟩, ⟨some true, .no⟩, ⟨some true, .no⟩, ⟨some true, .no⟩, ⟨none, .tv true⟩, oH] [] [] hX (by kernel_rfl) (allCons (f114_ok hc5) (allCons hb6 (allCons hb6 (allCons hb6 (allCons hb6 (allCons hb6 (allCons hb6 (allCons (f197_ok hc8) (allCons hb6 (allCons hb9 (allCons hb9 (allCons hb9 (allCons hb9 (allCons hb9 (allCons hb9 (allCons (f197_ok hc11) (allCons hb9 (allCons hb12 (allCons hb12 (allCons hb12 (allCons hb12 (allCons hb12 (allCons hb12 (allCons hb12 allNil)))))))))))))))))))))))) (fun _ h => (qThen (h.ht (cont (decide ((lenI a0.2) ≥ (1 : Int))) (of_some hT3)))))
        · exact HT.rgK [oH, ⟨none, .call [.imm tI, .imm tI, .imm tI] [⟨false, .bool, y4⟩] []⟩, oH, ⟨some true, .no⟩, ⟨some true, .no⟩, ⟨some true, .no⟩, ⟨some true, .no⟩, ⟨some true, .no⟩, ⟨some true, .call [.imm tLI, .imm tI] [⟨false, .bool, y7⟩] []⟩, ⟨none, .tv true⟩, oH, ⟨some true, .no⟩, ⟨some true, .no⟩, ⟨some true, .no⟩, ⟨some true, .no⟩, ⟨some true, .no⟩, ⟨some true, .call [.imm tLI, .imm tI] [⟨false, .bool, y10⟩] []⟩, ⟨none, .tv true⟩, oH, ⟨some false, .no⟩, ⟨some false, .no⟩, ⟨some false, .no⟩, ⟨some false, .no⟩, ⟨some false, .no⟩, ⟨some false, .no⟩, ⟨none, .tv false⟩, oH] [] [] hX (by kernel_rfl) (allCons (f114_ok hc5) (allCons hb6 (allCons hb6 (allCons hb6 (allCons hb6 (allCons hb6 (allCons hb6 (allCons (f197_ok hc8) (allCons hb6 (allCons hb9 (allCons hb9 (allCons hb9 (allCons hb9 (allCons hb9 (allCons hb9 (allCons (f197_ok hc11) (allCons hb9 (allCons hb12 (allCons hb12 (allCons hb12 (allCons hb12 (allCons hb12 (allCons hb12 (allCons hb12 allNil)))))))))))))))))))))))) (fun _ h => (qThen (h.ht (cont false (of_some hT3)))))
      · exact HT.rgK [oH, ⟨none, .call [.imm tI, .imm tI, .imm tI] [⟨false, .bool, y4⟩] []⟩, oH, ⟨some true, .no⟩, ⟨some true, .no⟩, ⟨some true, .no⟩, ⟨some true, .no⟩, ⟨some true, .no⟩, ⟨some true, .call [.imm tLI, .imm tI] [⟨false, .bool, y7⟩] []⟩, ⟨none, .tv true⟩, oH, ⟨some false, .no⟩, ⟨some false, .no⟩, ⟨some false, .no⟩, ⟨some false, .no⟩, ⟨some false, .no⟩, ⟨some false, .no⟩, ⟨none, .tv false⟩, oH, ⟨some false, .no⟩, ⟨some false, .no⟩, ⟨some false, .no⟩, ⟨some false, .no⟩, ⟨some false, .no⟩, ⟨some false, .no⟩, ⟨none, .tv false⟩, oH] [] [] hX (by kernel_rfl) (allCons (f114_ok hc5) (allCons hb6 (allCons hb6 (allCons hb6 (allCons hb6 (allCons hb6 (allCons hb6 (allCons (f197_ok hc8) (allCons hb6 (allCons hb9 (allCons hb9 (allCons hb9 (allCons hb9 (allCons hb9 (allCons hb9 (allCons hb9 (allCons (rfl : false = false) (allCons (rfl : false = false) (allCons (rfl : false = false) (allCons (rfl : false = false) (allCons (rfl : false = false) (allCons (rfl : false = false) (allCons (rfl : false = false) allNil))))))))))))))))))))))) (fun _ h => (qThen (h.ht (cont false (of_some hT3)))))
    · exact HT.rgK [oH, ⟨none, .call [.imm tI, .imm tI, .imm tI] [⟨false, .bool, y4⟩] []⟩, oH, ⟨some false, .no⟩, ⟨some false, .no⟩, ⟨some false, .no⟩, ⟨some false, .no⟩, ⟨some false, .no⟩, ⟨some false, .no⟩, ⟨none, .tv false⟩, oH, ⟨some false, .no⟩, ⟨some false, .no⟩, ⟨some false, .no⟩, ⟨some false, .no⟩, ⟨some false, .no⟩, ⟨some false, .no⟩, ⟨none, .tv false⟩, oH, ⟨some false, .no⟩, ⟨some false, .no⟩, ⟨some false, .no⟩, ⟨some false, .no⟩, ⟨some false, .no⟩, ⟨some false, .no⟩, ⟨none, .tv false⟩, oH] [] [] hX (by kernel_rfl) (allCons (f114_ok hc5) (allCons hb6 (allCons hb6 (allCons hb6 (allCons hb6 (allCons hb6 (allCons hb6 (allCons hb6 (allCons (rfl : false = false) (allCons (rfl : false = false) (allCons (rfl : false = false) (allCons (rfl : false = false) (allCons (rfl : false = false) (allCons (rfl : false = false) (allCons (rfl : false = false) (allCons (rfl : false = false) (allCons (rfl : false = false) (allCons (rfl : false = false) (allCons (rfl : false = false) (allCons (rfl : false = false) (allCons (rfl : false = false) (allCons (rfl : false = false) allNil)))))))))))))))))))))) (fun _ h => (qThen (h.ht (cont false (of_some hT3)))))

noncomputable def spec_NormalLoop_B1 (r6 : Int) (s10 : List Int × List Int) : Option ((List Int × List Int) ⊕ ((List Int × List Int))) :=
  (show Option (Bool) from
    bif (decide ((lenI s10.1) > (0 : Int))) then
      guardP ((0 : Int) ≤ (wsub .i64 (lenI s10.1) (1 : Int)) ∧ (wsub .i64 (lenI s10.1) (1 : Int)) < lenI s10.1) (
        guardP ((0 : Int) ≤ (wsub .i64 r6 (1 : Int)) ∧ (wsub .i64 r6 (1 : Int)) < lenI s10.2) (
          some ((List.getD s10.1 (Int.toNat (wsub .i64 (lenI s10.1) (1 : Int))) (0 : Int)) == (List.getD s10.2 (Int.toNat (wsub .i64 r6 (1 : Int))) (0 : Int)))))
    else
      some false).bind fun v16 =>
  bif v16 then
    guardP ((0 : Int) ≤ (wsub .i64 (lenI s10.1) (1 : Int)) ∧ (wsub .i64 (lenI s10.1) (1 : Int)) ≤ lenI s10.1) (
      guardP ((0 : Int) ≤ (wsub .i64 r6 (1 : Int)) ∧ (wsub .i64 r6 (1 : Int)) < lenI s10.2) (
        guardP ((0 : Int) ≤ (wsub .i64 r6 (1 : Int)) ∧ (wsub .i64 r6 (1 : Int)) ≤ lenI s10.2) (
          guardP (List.length ([(List.getD s10.2 (Int.toNat (wsub .i64 r6 (1 : Int))) (0 : Int))] : List Int) + List.length (List.take (Int.toNat (wsub .i64 r6 (1 : Int))) (List.drop 0 s10.2)) ≤ appMax) (
            some (.inl ((List.take (Int.toNat (wsub .i64 (lenI s10.1) (1 : Int))) s10.1), (([(List.getD s10.2 (Int.toNat (wsub .i64 r6 (1 : Int))) (0 : Int))] : List Int) ++ (List.take (Int.toNat (wsub .i64 r6 (1 : Int))) (List.drop 0 s10.2)))))))))
  else
    some (.inr (s10.1, s10.2))

noncomputable def spec_NormalLoop_B2 (a0 : List Int × List Int) (s4 : Int × Int) (s36 : Bool × Int) : Option ((Bool × Int) ⊕ (Bool)) :=
  bif (decide (s36.2 < (lenI a0.2))) then
    (show Option (Bool) from
      bif s36.1 then
        guardP ((0 : Int) ≤ s36.2 ∧ s36.2 < lenI a0.2) (
          guardP ((0 : Int) ≤ (wsub .i64 s36.2 s4.2) ∧ (wsub .i64 s36.2 s4.2) < lenI a0.2) (
            some ((List.getD a0.2 (Int.toNat s36.2) (0 : Int)) == (List.getD a0.2 (Int.toNat (wsub .i64 s36.2 s4.2)) (0 : Int)))))
      else
        some false).bind fun v44 =>
    some (.inl (v44, (wadd .i64 s36.2 (1 : Int))))
  else
    some (.inr s36.1)

noncomputable def spec_NormalLoop_B3 (a0 : List Int × List Int) (s4 : Int × Int) : Option ((Int × Int) ⊕ (Int)) :=
  bif (decide (s4.2 ≥ (1 : Int))) then
    (show Option (Int) from
      guardP (s4.2 ≠ 0) (
        (rounds (spec_NormalLoop_B2 a0 s4) (((Int.tmod (lenI a0.2) s4.2) == (0 : Int)), s4.2)).bind fun r38 =>
        bif r38 then
          some s4.2
        else
          some s4.1)).bind fun v32 =>
    some (.inl (v32, (wsub .i64 s4.2 (1 : Int))))
  else
    some (.inr s4.1)

noncomputable def spec_NormalLoop (a0 : List Int × List Int) (a1 : Int) : Option ((List Int × List Int) × Bool) :=
  (spec_l07Loop (a0.1, a0.2) a1).bind fun y1 =>
  bif (!y1) then
    some ((([] : List Int), ([] : List Int)), false)
  else
    (rounds (spec_NormalLoop_B3 a0) ((lenI a0.2), (lenI a0.2))).bind fun r6 =>
    guardP (0 + List.length a0.1 ≤ appMax) (
      guardP ((0 : Int) ≤ r6 ∧ r6 ≤ lenI a0.2) (
        guardP (0 + List.length (cut a0.2 (0 : Int) r6) ≤ appMax) (
          (rounds (spec_NormalLoop_B1 r6) (a0.1, (cut a0.2 (0 : Int) r6))).bind fun r12 =>
          some ((r12.1, r12.2), true))))

theorem f36_ok {a0 : List Int × List Int} {a1 : Int} {r : (List Int × List Int) × Bool} (hr : spec_NormalLoop a0 a1 = some r) : CallOK Try.prog 36 [.imm (.st (.pair tLI tLI)) a0, .imm tI a1] [⟨true, (.st (.pair tLI tLI)), r.1⟩, ⟨false, .bool, r.2⟩] [] := by
  unfold spec_NormalLoop at hr
  refine CallOK.of_body (ts := [(true, (.st (.pair tLI tLI))), (false, .bool)]) Try.func36 rfl (by kernel_rfl) (Nat.le_of_ble_eq_true (by kernel_rfl)) fun cx hP hN hO hF => ?_
  have hO : cx.own.map Prod.fst = [] := hO
  have hX := CxIs.mk hP hN hO
  have hF := hF rfl
  show HT cx ⟨[(0, .agg [nC a0.1, nC a0.2]), (1, iV a1)], [], 0⟩ _ _
  refine HT.rg2 (oHs 3) ⟨[(1, iV a1), (2, pV 0 0), (4, pV 1 0)], [(1, .box [.nilS, .nilS]), (0, .box [nC a0.1, nC a0.2])], 2⟩ hX (by kernel_rfl) allNil ?_
  refine HT.seq ?_
  obtain ⟨y1, hc2, hr⟩ := of_bind hr
  refine HT.rg2 [oH, ⟨none, .call [.pimm (.st (.pair tLI tLI)), .imm tI] [⟨false, .bool, y1⟩] []⟩, oH] ⟨[(2, pV 0 0), (4, pV 1 0), (16, bV (!y1))], [(1, .box [.nilS, .nilS]), (0, .box [nC a0.1, nC a0.2])], 2⟩ hX (by kernel_rfl) (allCons (f117_ok hc2) allNil) ?_
  rcases of_bif hr with ⟨hb3, hr⟩ | ⟨hb3, hr⟩
  · refine HT.cond1 rfl hb3 ?_
    refine HT.rg2 (oHs 3) ⟨[(4, pV 1 0), (5, bV false)], [(1, .box [.nilS, .nilS])], 2⟩ hX (by kernel_rfl) allNil ?_
    have hr := of_some hr
    subst hr
    exact HT.ret (qThenR ⟨[.agg [.nilS, .nilS], bV false], [], [], by kernel_rfl, by kernel_rfl, rfl, by kernel_rfl, by kernel_rfl, trivial⟩)
  · refine HT.cond0 rfl hb3 ?_
    refine HT.skip (qThen ?_)
    refine HT.rg2 (oHs 4) ⟨[(2, pV 0 0), (4, pV 1 0), (6, iV (lenI a0.2))], [(1, .box [.nilS, .nilS]), (0, .box [nC a0.1, nC a0.2])], 2⟩ hX (by kernel_rfl) allNil ?_
    refine HT.rg2 (oHs 2) ⟨[(2, pV 0 0), (4, pV 1 0), (6, iV (lenI a0.2)), (7, iV (lenI a0.2))], [(1, .box [.nilS, .nilS]), (0, .box [nC a0.1, nC a0.2])], 2⟩ hX (by kernel_rfl) allNil ?_
    refine HT.seq ?_
    refine HT.rg2 (oHs 2) ⟨[(2, pV 0 0), (4, pV 1 0), (6, iV (lenI a0.2)), (7, iV (lenI a0.2)), (8, iV (lenI a0.2))], [(1, .box [.nilS, .nilS]), (0, .box [nC a0.1, nC a0.2])], 2⟩ hX (by kernel_rfl) allNil ?_
    refine HT.block ?_
    obtain ⟨r5, hL51, hr⟩ := of_bind hr
    refine HT.loopL (fun (s4 : Int × Int) => ⟨[(2, pV 0 0), (4, pV 1 0), (6, iV (lenI a0.2)), (7, iV s4.1), (8, iV s4.2)], [(0, .box [nC a0.1, nC a0.2]), (1, .box [.nilS, .nilS])], 2⟩) (fun (r6 : Int) => (.exit 0, ⟨[(2, pV 0 0), (4, pV 1 0), (7, iV r6)], [(0, .box [nC a0.1, nC a0.2]), (1, .box [.nilS, .nilS])], 2⟩)) (Le.re [(0, 0), (1, 1)] [] hX (by kernel_rfl)) hL51 ?_ (fun s4 x28 hx29 hk30 => ?_)
    · refine (qBlockX (qThen ?_))
      obtain ⟨hg7, hr⟩ := of_guard hr
      refine HT.rg2 [oH, oH, oH, ⟨none, .ty tI⟩, oH] ⟨[(2, pV 0 0), (4, pV 1 0), (7, iV r5), (11, aV 2)], [(2, .seq tI a0.1), (0, .box [nC a0.1, nC a0.2]), (1, .box [.nilS, .nilS])], 3⟩ hX (by kernel_rfl) (allCons hg7 allNil) ?_
      obtain ⟨hg8, hr⟩ := of_guard hr
      obtain ⟨hg9, hr⟩ := of_guard hr
      refine HT.rg2 [oH, oH, oH, oH, oH, ⟨none, .ty tI⟩, oH] ⟨[(4, pV 1 0), (7, iV r5), (11, aV 2), (12, aV 3)], [(3, .seq tI (cut a0.2 (0 : Int) r5)), (2, .seq tI a0.1), (1, .box [.nilS, .nilS])], 4⟩ hX (by kernel_rfl) (allCons (show (0 : Int) ≤ 0 ∧ (0 : Int) ≤ r5 ∧ r5 ≤ lenI a0.2 from ⟨Int.le_refl _, hg8.1, hg8.2⟩) (allCons hg9 allNil)) ?_
      refine HT.seq ?_
      refine HT.block ?_
      obtain ⟨r11, hL27, hr⟩ := of_bind hr
      refine HT.loopL (fun (s10 : List Int × List Int) => ⟨[(4, pV 0 0), (7, iV r5), (11, aV 1), (12, aV 2)], [(0, .box [.nilS, .nilS]), (1, .seq tI s10.1), (2, .seq tI s10.2)], 3⟩) (fun (r12 : (List Int × List Int)) => (.exit 4, ⟨[(4, pV 0 0), (11, aV 1), (12, aV 2)], [(0, .box [.nilS, .nilS]), (1, .seq tI r12.1), (2, .seq tI r12.2)], 3⟩)) (Le.re [(1, 0), (2, 1), (3, 2)] [] hX (by kernel_rfl)) hL27 ?_ (fun s10 x13 hx14 hk15 => ?_)
      · refine (qBlockX (qThen ?_))
        refine HT.rg2 (oHs 5) ⟨[(4, pV 0 0), (5, bV true)], [(0, .box [.all 1, .all 2]), (1, .seq tI r11.1), (2, .seq tI r11.2)], 3⟩ hX (by kernel_rfl) allNil ?_
        have hr := of_some hr
        subst hr
        exact HT.ret ⟨[.agg [.all 1, .all 2], bV true], [1, 2], [], by kernel_rfl, by kernel_rfl, rfl, by kernel_rfl, by kernel_rfl, trivial⟩
      · refine HT.seq ?_
        obtain ⟨v16', hT18, hx14⟩ := of_bind hx14
        refine HT.join (fun (v16 : Bool) => ⟨[(4, pV 0 0), (7, iV r5), (11, aV 1), (12, aV 2), (81, bV v16)], [(0, .box [.nilS, .nilS]), (1, .seq tI s10.1), (2, .seq tI s10.2)], 3⟩) (fun v => v = v16') (fun v16 hv17 => ?_) (fun cont => ?_)
        · subst hv17
          rcases of_bif hx14 with ⟨hb19, hx14⟩ | ⟨hb19, hx14⟩
          · refine HT.cond1 rfl hb19 ?_
            refine HT.skip (qThen ?_)
            refine HT.block ?_
            obtain ⟨hg20, hx14⟩ := of_guard hx14
            refine HT.rg2 (oHs 6) ⟨[(4, pV 0 0), (7, iV r5), (11, .one (.ref 1 0 (Int.toNat (wsub .i64 (lenI s10.1) (1 : Int))))), (12, aV 2)], [(0, .box [.nilS, .nilS]), (1, .seq tI s10.1), (2, .seq tI s10.2)], 3⟩ hX (by kernel_rfl) (allCons (show (0 : Int) ≤ 0 ∧ (0 : Int) ≤ (wsub .i64 (lenI s10.1) (1 : Int)) ∧ (wsub .i64 (lenI s10.1) (1 : Int)) ≤ lenI s10.1 from ⟨Int.le_refl _, hg20.1, hg20.2⟩) allNil) ?_
            obtain ⟨hg21, hx14⟩ := of_guard hx14
            refine HT.rg2 (oHs 6) ⟨[(4, pV 0 0), (7, iV r5), (11, .one (.ref 1 0 (Int.toNat (wsub .i64 (lenI s10.1) (1 : Int))))), (12, aV 2), (13, iV (List.getD s10.2 (Int.toNat (wsub .i64 r5 (1 : Int))) (0 : Int)))], [(0, .box [.nilS, .nilS]), (1, .seq tI s10.1), (2, .seq tI s10.2)], 3⟩ hX (by kernel_rfl) (allCons hg21 (allCons (natLt hg21) allNil)) ?_
            obtain ⟨hg22, hx14⟩ := of_guard hx14
            obtain ⟨hg23, hx14⟩ := of_guard hx14
            have hx14 := of_some hx14
            subst hx14
            refine HT.rgL [oH, ⟨none, .ty tI⟩, oH, oH, oH, oH, ⟨none, .ty tI⟩, oH] ⟨[(4, pV 0 0), (7, iV r5), (11, .one (.ref 1 0 (Int.toNat (wsub .i64 (lenI s10.1) (1 : Int))))), (12, aV 4)], [(4, .seq tI (([(List.getD s10.2 (Int.toNat (wsub .i64 r5 (1 : Int))) (0 : Int))] : List Int) ++ (List.take (Int.toNat (wsub .i64 r5 (1 : Int))) (List.drop 0 s10.2)))), (0, .box [.nilS, .nilS]), (1, .seq tI s10.1)], 5⟩ hX (by kernel_rfl) (allCons (show (0 : Int) ≤ 0 ∧ (0 : Int) ≤ (wsub .i64 r5 (1 : Int)) ∧ (wsub .i64 r5 (1 : Int)) ≤ lenI s10.2 from ⟨Int.le_refl _, hg22.1, hg22.2⟩) (allCons hg23 allNil)) (qBlock (qLoopN ⟨((List.take (Int.toNat (wsub .i64 (lenI s10.1) (1 : Int))) s10.1), (([(List.getD s10.2 (Int.toNat (wsub .i64 r5 (1 : Int))) (0 : Int))] : List Int) ++ (List.take (Int.toNat (wsub .i64 r5 (1 : Int))) (List.drop 0 s10.2)))), rfl, Le.cv (s := ⟨[(0, 0), (1, 1), (4, 2)], [], [1], false⟩) (own := []) (ps := [r5 = r5, 0 = 0, List.length (List.take (Int.toNat (wsub .i64 (lenI s10.1) (1 : Int))) s10.1) = Int.toNat (wsub .i64 (lenI s10.1) (1 : Int)), (List.take (Int.toNat (wsub .i64 (lenI s10.1) (1 : Int))) s10.1) = List.take (List.length (List.take (Int.toNat (wsub .i64 (lenI s10.1) (1 : Int))) s10.1)) s10.1, (([(List.getD s10.2 (Int.toNat (wsub .i64 r5 (1 : Int))) (0 : Int))] : List Int) ++ (List.take (Int.toNat (wsub .i64 r5 (1 : Int))) (List.drop 0 s10.2))) = (([(List.getD s10.2 (Int.toNat (wsub .i64 r5 (1 : Int))) (0 : Int))] : List Int) ++ (List.take (Int.toNat (wsub .i64 r5 (1 : Int))) (List.drop 0 s10.2)))]) (st' := ⟨[(4, pV 0 0), (7, iV r5), (11, aV 1), (12, aV 2)], [(0, .box [.nilS, .nilS]), (1, .seq tI (List.take (Int.toNat (wsub .i64 (lenI s10.1) (1 : Int))) s10.1)), (2, .seq tI (([(List.getD s10.2 (Int.toNat (wsub .i64 r5 (1 : Int))) (0 : Int))] : List Int) ++ (List.take (Int.toNat (wsub .i64 r5 (1 : Int))) (List.drop 0 s10.2))))], 3⟩) hO (fun h => by cases h) (by kernel_rfl) ⟨rfl, rfl, (trunc1 hg20), (trunc2 _ _), rfl, trivial⟩⟩))
          · refine HT.cond0 rfl hb19 ?_
            have hx14 := of_some hx14
            subst hx14
            exact HT.exitL (Le.re [(0, 0), (1, 1), (2, 2)] [] hX (by kernel_rfl)) (qThenE (qLoopE (hk15 (s10.1, s10.2) rfl)))
        · rcases of_bif hT18 with ⟨hb24, hT18⟩ | ⟨hb24, hT18⟩
          · obtain ⟨hg25, hT18⟩ := of_guard hT18
            obtain ⟨hg26, hT18⟩ := of_guard hT18
            exact HT.drK 15 [⟨oH, []⟩, ⟨oH, [0]⟩, ⟨oH, [0, 1]⟩, ⟨oH, [0, 1, 2]⟩, ⟨⟨some true, .no⟩, [0, 1, 2, 3]⟩, ⟨⟨some true, .no⟩, [0, 1, 2, 3]⟩, ⟨⟨some true, .no⟩, [0, 1, 2, 3, 5]⟩, ⟨⟨some true, .no⟩, [0, 1, 2, 3, 5, 6]⟩, ⟨⟨some true, .no⟩, [0, 1, 2, 3, 4, 5, 6, 7]⟩, ⟨⟨some true, .no⟩, [0, 1, 2, 3, 4, 5, 6, 7, 8]⟩, ⟨⟨some true, .no⟩, [0, 1, 2, 3]⟩, ⟨⟨some true, .no⟩, [0, 1, 2, 3]⟩, ⟨⟨some true, .no⟩, [0, 1, 2, 3, 11]⟩, ⟨⟨some true, .no⟩, [0, 1, 2, 3, 10, 11, 12]⟩, ⟨⟨some true, .no⟩, [0, 1, 2, 3, 10, 11, 12, 13]⟩] [[0, 1, 2, 3, 4, 5, 6, 7, 8, 9, 10, 11, 12, 13, 14], [0, 1, 2, 3, 4, 5, 6, 7, 8, 9, 10, 11, 12, 13, 14, 15]] [⟨some true, .no⟩, ⟨none, .tv true⟩] [(0, 0), (1, 1), (2, 2)] [] hX (by kernel_rfl) (by kernel_rfl) (allCons hb24 (allCons hb24 (allCons hb24 (allCons hb24 (allCons hb24 (allCons hg25 (allCons hb24 (allCons (natLt hg25) (allCons hb24 (allCons hb24 (allCons hb24 (allCons hb24 (allCons hg26 (allCons hb24 (allCons (natLt hg26) (allCons hb24 (allCons hb24 allNil))))))))))))))))) (fun _ h => (qThen (h.ht (cont ((List.getD s10.1 (Int.toNat (wsub .i64 (lenI s10.1) (1 : Int))) (0 : Int)) == (List.getD s10.2 (Int.toNat (wsub .i64 r5 (1 : Int))) (0 : Int))) (of_some hT18)))))
          · exact HT.drK 15 [⟨oH, []⟩, ⟨oH, [0]⟩, ⟨oH, [0, 1]⟩, ⟨oH, [0, 1, 2]⟩, ⟨⟨some false, .no⟩, [0, 1, 2, 3]⟩, ⟨⟨some false, .no⟩, [0, 1, 2, 3]⟩, ⟨⟨some false, .no⟩, [0, 1, 2, 3, 5]⟩, ⟨⟨some false, .no⟩, [0, 1, 2, 3, 5, 6]⟩, ⟨⟨some false, .no⟩, [0, 1, 2, 3, 4, 5, 6, 7]⟩, ⟨⟨some false, .no⟩, [0, 1, 2, 3, 4, 5, 6, 7, 8]⟩, ⟨⟨some false, .no⟩, [0, 1, 2, 3]⟩, ⟨⟨some false, .no⟩, [0, 1, 2, 3]⟩, ⟨⟨some false, .no⟩, [0, 1, 2, 3, 11]⟩, ⟨⟨some false, .no⟩, [0, 1, 2, 3, 10, 11, 12]⟩, ⟨⟨some false, .no⟩, [0, 1, 2, 3, 10, 11, 12, 13]⟩] [[0, 1, 2, 3, 4, 5, 6, 7, 8, 9, 10, 11, 12, 13, 14], [0, 1, 2, 3, 4, 5, 6, 7, 8, 9, 10, 11, 12, 13, 14, 15]] [⟨some false, .no⟩, ⟨none, .tv false⟩] [(0, 0), (1, 1), (2, 2)] [] hX (by kernel_rfl) (by kernel_rfl) (allCons hb24 (allCons hb24 (allCons hb24 (allCons hb24 (allCons hb24 (allCons hb24 (allCons hb24 (allCons hb24 (allCons hb24 (allCons hb24 (allCons hb24 (allCons hb24 (allCons hb24 allNil))))))))))))) (fun _ h => (qThen (h.ht (cont false (of_some hT18)))))
    · refine HT.seq ?_
      refine HT.rg2 (oHs 2) ⟨[(2, pV 0 0), (4, pV 1 0), (6, iV (lenI a0.2)), (7, iV s4.1), (8, iV s4.2), (24, bV (decide (s4.2 ≥ (1 : Int))))], [(0, .box [nC a0.1, nC a0.2]), (1, .box [.nilS, .nilS])], 2⟩ hX (by kernel_rfl) allNil ?_
      rcases of_bif hx29 with ⟨hb31, hx29⟩ | ⟨hb31, hx29⟩
      · refine HT.cond1 rfl hb31 ?_
        refine HT.skip (qThen ?_)
        obtain ⟨v32', hT34, hx29⟩ := of_bind hx29
        refine HT.join (fun (v32 : Int) => ⟨[(2, pV 0 0), (4, pV 1 0), (6, iV (lenI a0.2)), (7, iV v32), (8, iV s4.2)], [(0, .box [nC a0.1, nC a0.2]), (1, .box [.nilS, .nilS])], 2⟩) (fun v => v = v32') (fun v32 hv33 => ?_) (fun cont => ?_)
        · subst hv33
          have hx29 := of_some hx29
          subst hx29
          exact HT.rgK (oHs 3) [(0, 0), (1, 1)] [] hX (by kernel_rfl) allNil (fun _ h => (qLoopN ⟨(v32, (wsub .i64 s4.2 (1 : Int))), rfl, h⟩))
        · refine HT.block ?_
          obtain ⟨hg35, hT34⟩ := of_guard hT34
          refine HT.rg2 (oHs 5) ⟨[(2, pV 0 0), (4, pV 1 0), (6, iV (lenI a0.2)), (7, iV s4.1), (8, iV s4.2), (9, bV ((Int.tmod (lenI a0.2) s4.2) == (0 : Int)))], [(0, .box [nC a0.1, nC a0.2]), (1, .box [.nilS, .nilS])], 2⟩ hX (by kernel_rfl) (allCons hg35 allNil) ?_
          refine HT.seq ?_
          refine HT.rg2 (oHs 2) ⟨[(2, pV 0 0), (4, pV 1 0), (6, iV (lenI a0.2)), (7, iV s4.1), (8, iV s4.2), (9, bV ((Int.tmod (lenI a0.2) s4.2) == (0 : Int))), (10, iV s4.2)], [(0, .box [nC a0.1, nC a0.2]), (1, .box [.nilS, .nilS])], 2⟩ hX (by kernel_rfl) allNil ?_
          refine HT.block ?_
          obtain ⟨r37, hL50, hT34⟩ := of_bind hT34
          refine HT.loopL (fun (s36 : Bool × Int) => ⟨[(2, pV 0 0), (4, pV 1 0), (6, iV (lenI a0.2)), (7, iV s4.1), (8, iV s4.2), (9, bV s36.1), (10, iV s36.2)], [(0, .box [nC a0.1, nC a0.2]), (1, .box [.nilS, .nilS])], 2⟩) (fun (r38 : Bool) => (.exit 2, ⟨[(2, pV 0 0), (4, pV 1 0), (6, iV (lenI a0.2)), (7, iV s4.1), (8, iV s4.2), (9, bV r38)], [(0, .box [nC a0.1, nC a0.2]), (1, .box [.nilS, .nilS])], 2⟩)) (Le.re [(0, 0), (1, 1)] [] hX (by kernel_rfl)) hL50 ?_ (fun s36 x40 hx41 hk42 => ?_)
          · refine (qBlockX (qThen ?_))
            refine HT.rg2 [oH] ⟨[(2, pV 0 0), (4, pV 1 0), (6, iV (lenI a0.2)), (7, iV s4.1), (8, iV s4.2), (53, bV r37)], [(0, .box [nC a0.1, nC a0.2]), (1, .box [.nilS, .nilS])], 2⟩ hX (by kernel_rfl) allNil ?_
            rcases of_bif hT34 with ⟨hb39, hT34⟩ | ⟨hb39, hT34⟩
            · refine HT.cond1 rfl hb39 ?_
              exact HT.rgK (oHs 2) [(0, 0), (1, 1)] [] hX (by kernel_rfl) allNil (fun _ h => (qBlock (qThen (h.ht (cont s4.2 (of_some hT34))))))
            · refine HT.cond0 rfl hb39 ?_
              refine HT.skip (qBlock (qThen ?_))
              exact (Le.re [(0, 0), (1, 1)] [] hX (by kernel_rfl)).ht (cont s4.1 (of_some hT34))
          · refine HT.seq ?_
            refine HT.rg2 (oHs 3) ⟨[(2, pV 0 0), (4, pV 1 0), (6, iV (lenI a0.2)), (7, iV s4.1), (8, iV s4.2), (9, bV s36.1), (10, iV s36.2), (34, bV (decide (s36.2 < (lenI a0.2))))], [(0, .box [nC a0.1, nC a0.2]), (1, .box [.nilS, .nilS])], 2⟩ hX (by kernel_rfl) allNil ?_
            rcases of_bif hx41 with ⟨hb43, hx41⟩ | ⟨hb43, hx41⟩
            · refine HT.cond1 rfl hb43 ?_
              refine HT.skip (qThen ?_)
              obtain ⟨v44', hT46, hx41⟩ := of_bind hx41
              refine HT.join (fun (v44 : Bool) => ⟨[(2, pV 0 0), (4, pV 1 0), (6, iV (lenI a0.2)), (7, iV s4.1), (8, iV s4.2), (9, bV v44), (10, iV s36.2)], [(0, .box [nC a0.1, nC a0.2]), (1, .box [.nilS, .nilS])], 2⟩) (fun v => v = v44') (fun v44 hv45 => ?_) (fun cont => ?_)
              · subst hv45
                have hx41 := of_some hx41
                subst hx41
                exact HT.rgK (oHs 3) [(0, 0), (1, 1)] [] hX (by kernel_rfl) allNil (fun _ h => (qLoopN ⟨(v44, (wadd .i64 s36.2 (1 : Int))), rfl, h⟩))
              · refine HT.block ?_
                rcases of_bif hT46 with ⟨hb47, hT46⟩ | ⟨hb47, hT46⟩
                · obtain ⟨hg48, hT46⟩ := of_guard hT46
                  obtain ⟨hg49, hT46⟩ := of_guard hT46
                  exact HT.drK 14 [⟨oH, []⟩, ⟨oH, [0]⟩, ⟨⟨some true, .no⟩, [0, 1]⟩, ⟨⟨some true, .no⟩, [0, 1, 2]⟩, ⟨⟨some true, .no⟩, [0, 1]⟩, ⟨⟨some true, .no⟩, [0, 1, 2, 3, 4]⟩, ⟨⟨some true, .no⟩, [0, 1, 2, 3, 4, 5]⟩, ⟨⟨some true, .no⟩, [0, 1]⟩, ⟨⟨some true, .no⟩, [0, 1, 7]⟩, ⟨⟨some true, .no⟩, [0, 1]⟩, ⟨⟨some true, .no⟩, [0, 1]⟩, ⟨⟨some true, .no⟩, [0, 1, 9, 10]⟩, ⟨⟨some true, .no⟩, [0, 1, 7, 8, 9, 10, 11]⟩, ⟨⟨some true, .no⟩, [0, 1, 7, 8, 9, 10, 11, 12]⟩] [[0, 1, 2, 3, 4, 5, 6, 7, 8, 9, 10, 11, 12, 13], [0, 1, 2, 3, 4, 5, 6, 7, 8, 9, 10, 11, 12, 13, 14], [0, 1, 2, 3, 4, 5, 6, 7, 8, 9, 10, 11, 12, 13, 14, 15]] [⟨some true, .no⟩, ⟨none, .tv true⟩, oH] [(0, 0), (1, 1)] [] hX (by kernel_rfl) (by kernel_rfl) (allCons hb47 (allCons hb47 (allCons hb47 (allCons hb47 (allCons hg48 (allCons hb47 (allCons hb47 (allCons hb47 (allCons hb47 (allCons hb47 (allCons hb47 (allCons hb47 (allCons hg49 (allCons hb47 (allCons hb47 (allCons hb47 allNil)))))))))))))))) (fun _ h => (qBlock (qThen (h.ht (cont ((List.getD a0.2 (Int.toNat s36.2) (0 : Int)) == (List.getD a0.2 (Int.toNat (wsub .i64 s36.2 s4.2)) (0 : Int))) (of_some hT46))))))
                · exact HT.drK 14 [⟨oH, []⟩, ⟨oH, [0]⟩, ⟨⟨some false, .no⟩, [0, 1]⟩, ⟨⟨some false, .no⟩, [0, 1, 2]⟩, ⟨⟨some false, .no⟩, [0, 1]⟩, ⟨⟨some false, .no⟩, [0, 1, 2, 3, 4]⟩, ⟨⟨some false, .no⟩, [0, 1, 2, 3, 4, 5]⟩, ⟨⟨some false, .no⟩, [0, 1]⟩, ⟨⟨some false, .no⟩, [0, 1, 7]⟩, ⟨⟨some false, .no⟩, [0, 1]⟩, ⟨⟨some false, .no⟩, [0, 1]⟩, ⟨⟨some false, .no⟩, [0, 1, 9, 10]⟩, ⟨⟨some false, .no⟩, [0, 1, 7, 8, 9, 10, 11]⟩, ⟨⟨some false, .no⟩, [0, 1, 7, 8, 9, 10, 11, 12]⟩] [[0, 1, 2, 3, 4, 5, 6, 7, 8, 9, 10, 11, 12, 13], [0, 1, 2, 3, 4, 5, 6, 7, 8, 9, 10, 11, 12, 13, 14], [0, 1, 2, 3, 4, 5, 6, 7, 8, 9, 10, 11, 12, 13, 14, 15]] [⟨some false, .no⟩, ⟨none, .tv false⟩, oH] [(0, 0), (1, 1)] [] hX (by kernel_rfl) (by kernel_rfl) (allCons hb47 (allCons hb47 (allCons hb47 (allCons hb47 (allCons hb47 (allCons hb47 (allCons hb47 (allCons hb47 (allCons hb47 (allCons hb47 (allCons hb47 (allCons hb47 (allCons hb47 (allCons hb47 allNil)))))))))))))) (fun _ h => (qBlock (qThen (h.ht (cont false (of_some hT46))))))
            · refine HT.cond0 rfl hb43 ?_
              have hx41 := of_some hx41
              subst hx41
              exact HT.exitL (Le.re [(0, 0), (1, 1)] [] hX (by kernel_rfl)) (qThenE (qLoopE (hk42 s36.1 rfl)))
      · refine HT.cond0 rfl hb31 ?_
        have hx29 := of_some hx29
        subst hx29
        exact HT.exitL (Le.re [(0, 0), (1, 1)] [] hX (by kernel_rfl)) (qThenE (qLoopE (hk30 s4.1 rfl)))

noncomputable def spec_l00Src_one (a0 : List Int × Int × Int) (a1 : Int) : Option (Bool × (List Int × Int × Int)) :=
  (spec_l00Src_pick a0 a1).bind fun y1 =>
  some ((y1.1 == (0 : Int)), y1.2)

theorem f193_ok {a0 : List Int × Int × Int} {a1 : Int} {r : Bool × (List Int × Int × Int)} (hr : spec_l00Src_one a0 a1 = some r) : CallOK Try.prog 193 [.own (.bx (.st (.pair (.sl (.int .u8)) (.pair tI (.int .u64))))) [a0], .imm tI a1] [⟨false, .bool, r.1⟩] [⟨(.bx (.st (.pair (.sl (.int .u8)) (.pair tI (.int .u64))))), [r.2]⟩] := by
  unfold spec_l00Src_one at hr
  refine CallOK.of_body (ts := [(false, .bool)]) Try.func193 rfl (by kernel_rfl) (Nat.le_of_ble_eq_true (by kernel_rfl)) fun cx hP hN hO hF => ?_
  have hO : cx.own.map Prod.fst = [0] := hO
  have hX := CxIs.mk hP hN hO
  have hF := hF rfl
  show HT cx ⟨[(0, .one (.elp 0 0 3 0)), (1, iV a1)], [(0, .seq (.st (.pair (.sl (.int .u8)) (.pair tI (.int .u64)))) ([a0]))], 1⟩ _ _
  refine HT.rg2 [oH] ⟨[(0, .one (.elp 0 0 3 0)), (1, iV a1)], [(0, .seq (.st (.pair (.sl (.int .u8)) (.pair tI (.int .u64)))) ([a0]))], 1⟩ hX (by kernel_rfl) allNil ?_
  obtain ⟨y1, hc2, hr⟩ := of_bind hr
  refine HT.rg2 [oH, oH, ⟨none, .call [.own (.bx (.st (.pair (.sl (.int .u8)) (.pair tI (.int .u64))))), .imm tI] [⟨false, tI, y1.1⟩] [⟨(.bx (.st (.pair (.sl (.int .u8)) (.pair tI (.int .u64))))), [y1.2]⟩]⟩, oH, oH] ⟨[(4, bV (y1.1 == (0 : Int)))], [(0, .seq (.st (.pair (.sl (.int .u8)) (.pair tI (.int .u64)))) ([y1.2]))], 1⟩ hX (by kernel_rfl) (allCons (f94_ok hc2) allNil) ?_
  have hr := of_some hr
  subst hr
  exact HT.ret ⟨[bV (y1.1 == (0 : Int))], [], [List.length ([y1.2]) = List.length [a0]], by kernel_rfl, by kernel_rfl, rfl, by kernel_rfl, by kernel_rfl, ⟨(show List.length ([y1.2]) = List.length [a0] from rfl), trivial⟩⟩

noncomputable def spec_l02DrawPlainSides_B1 (a1 : Int) (s4 : Int × (List Int × Int × Int) × List Bool) : Option ((Int × (List Int × Int × Int) × List Bool) ⊕ (((List Int × Int × Int) × List Bool))) :=
  bif (decide (s4.1 < a1)) then
    (spec_l00Src_one s4.2.1 (3 : Int)).bind fun y11 =>
    guardP (List.length s4.2.2 + List.length ([y11.1] : List Bool) ≤ appMax) (
      some (.inl ((wadd .i64 s4.1 (1 : Int)), y11.2, (s4.2.2 ++ ([y11.1] : List Bool)))))
  else
    some (.inr (s4.2.1, s4.2.2))

noncomputable def spec_l02DrawPlainSides_B2 (a1 : Int) (s1 : Int × (List Int × Int × Int) × List Int) : Option ((Int × (List Int × Int × Int) × List Int) ⊕ (((List Int × Int × Int) × List Int))) :=
  bif (decide (s1.1 > (0 : Int))) then
    (spec_l00Src_pick s1.2.1 a1).bind fun y19 =>
    guardP (List.length s1.2.2 + List.length ([y19.1] : List Int) ≤ appMax) (
      some (.inl ((wsub .i64 s1.1 (1 : Int)), y19.2, (s1.2.2 ++ ([y19.1] : List Int)))))
  else
    some (.inr (s1.2.1, s1.2.2))

noncomputable def spec_l02DrawPlainSides (a0 : List Int × Int × Int) (a1 : Int) (a2 : Int) : Option ((Int × Int × List Int × List Bool) × (List Int × Int × Int)) :=
  (rounds (spec_l02DrawPlainSides_B2 a1) ((wmul .i64 a1 a2), a0, ([] : List Int))).bind fun r3 =>
  (rounds (spec_l02DrawPlainSides_B1 a1) ((0 : Int), r3.1, ([] : List Bool))).bind fun r6 =>
  some ((a1, a2, r3.2, r6.2), r6.1)

theorem f96_ok {a0 : List Int × Int × Int} {a1 : Int} {a2 : Int} {r : (Int × Int × List Int × List Bool) × (List Int × Int × Int)} (hr : spec_l02DrawPlainSides a0 a1 a2 = some r) : CallOK Try.prog 96 [.own (.bx (.st (.pair (.sl (.int .u8)) (.pair tI (.int .u64))))) [a0], .imm tI a1, .imm tI a2] [⟨true, (.st (.pair tI (.pair tI (.pair tLI (.sl .bool))))), r.1⟩] [⟨(.bx (.st (.pair (.sl (.int .u8)) (.pair tI (.int .u64))))), [r.2]⟩] := by
  unfold spec_l02DrawPlainSides at hr
  refine CallOK.of_body (ts := [(true, (.st (.pair tI (.pair tI (.pair tLI (.sl .bool))))))]) Try.func96 rfl (by kernel_rfl) (Nat.le_of_ble_eq_true (by kernel_rfl)) fun cx hP hN hO hF => ?_
  have hO : cx.own.map Prod.fst = [0] := hO
  have hX := CxIs.mk hP hN hO
  have hF := hF rfl
  show HT cx ⟨[(0, .one (.elp 0 0 3 0)), (1, iV a1), (2, iV a2)], [(0, .seq (.st (.pair (.sl (.int .u8)) (.pair tI (.int .u64)))) ([a0]))], 1⟩ _ _
  refine HT.rg2 [oH] ⟨[(0, .one (.elp 0 0 3 0)), (1, iV a1), (2, iV a2), (6, pV 1 0)], [(1, .box [iC (0 : Int), iC (0 : Int), .nilS, .nilS]), (0, .seq (.st (.pair (.sl (.int .u8)) (.pair tI (.int .u64)))) ([a0]))], 2⟩ hX (by kernel_rfl) allNil ?_
  refine HT.rg2 (oHs 5) ⟨[(0, .one (.elp 0 0 3 0)), (1, iV a1), (2, iV a2), (6, pV 1 0), (7, pV 2 0)], [(2, .box [iC a1, iC a2, .nilS, .nilS]), (1, .box [iC (0 : Int), iC (0 : Int), .nilS, .nilS]), (0, .seq (.st (.pair (.sl (.int .u8)) (.pair tI (.int .u64)))) ([a0]))], 3⟩ hX (by kernel_rfl) allNil ?_
  refine HT.seq ?_
  refine HT.rg2 (oHs 4) ⟨[(0, .one (.elp 0 0 3 0)), (1, iV a1), (6, pV 1 0), (7, pV 2 0), (8, iV (wmul .i64 a1 a2))], [(2, .box [iC a1, iC a2, .nilS, .nilS]), (1, .box [iC (0 : Int), iC (0 : Int), .nilS, .nilS]), (0, .seq (.st (.pair (.sl (.int .u8)) (.pair tI (.int .u64)))) ([a0]))], 3⟩ hX (by kernel_rfl) allNil ?_
  refine HT.block ?_
  obtain ⟨r2, hL22, hr⟩ := of_bind hr
  refine HT.loopL (fun (s1 : Int × (List Int × Int × Int) × List Int) => ⟨[(0, .one (.elp 0 0 3 0)), (1, iV a1), (6, pV 1 0), (7, pV 2 0), (8, iV s1.1)], [(0, .seq (.st (.pair (.sl (.int .u8)) (.pair tI (.int .u64)))) ([s1.2.1])), (1, .box [iC (0 : Int), iC (0 : Int), .nilS, .nilS]), (2, .box [iC a1, iC a2, .all 3, .nilS]), (3, .seq tI s1.2.2)], 4⟩) (fun (r3 : ((List Int × Int × Int) × List Int)) => (.exit 0, ⟨[(0, .one (.elp 0 0 3 0)), (1, iV a1), (6, pV 1 0), (7, pV 2 0)], [(0, .seq (.st (.pair (.sl (.int .u8)) (.pair tI (.int .u64)))) ([r3.1])), (1, .box [iC (0 : Int), iC (0 : Int), .nilS, .nilS]), (2, .box [iC a1, iC a2, .all 3, .nilS]), (3, .seq tI r3.2)], 4⟩)) (Le.re [(0, 0), (1, 1), (2, 2)] [3] hX (by kernel_rfl)) hL22 ?_ (fun s1 x15 hx16 hk17 => ?_)
  · refine (qBlockX (qThen ?_))
    refine HT.seq ?_
    refine HT.rg2 [oH] ⟨[(0, .one (.elp 0 0 3 0)), (1, iV a1), (6, pV 1 0), (7, pV 2 0), (9, iV (0 : Int))], [(0, .seq (.st (.pair (.sl (.int .u8)) (.pair tI (.int .u64)))) ([r2.1])), (1, .box [iC (0 : Int), iC (0 : Int), .nilS, .nilS]), (2, .box [iC a1, iC a2, .all 3, .nilS]), (3, .seq tI r2.2)], 4⟩ hX (by kernel_rfl) allNil ?_
    refine HT.block ?_
    obtain ⟨r5, hL14, hr⟩ := of_bind hr
    refine HT.loopL (fun (s4 : Int × (List Int × Int × Int) × List Bool) => ⟨[(0, .one (.elp 0 0 3 0)), (1, iV a1), (6, pV 1 0), (7, pV 2 0), (9, iV s4.1)], [(0, .seq (.st (.pair (.sl (.int .u8)) (.pair tI (.int .u64)))) ([s4.2.1])), (1, .box [iC (0 : Int), iC (0 : Int), .nilS, .nilS]), (2, .box [iC a1, iC a2, .all 3, .all 4]), (3, .seq tI r2.2), (4, .seq .bool s4.2.2)], 5⟩) (fun (r6 : ((List Int × Int × Int) × List Bool)) => (.exit 2, ⟨[(6, pV 1 0), (7, pV 2 0)], [(0, .seq (.st (.pair (.sl (.int .u8)) (.pair tI (.int .u64)))) ([r6.1])), (1, .box [iC (0 : Int), iC (0 : Int), .nilS, .nilS]), (2, .box [iC a1, iC a2, .all 3, .all 4]), (3, .seq tI r2.2), (4, .seq .bool r6.2)], 5⟩)) (Le.re [(0, 0), (1, 1), (2, 2), (3, 3)] [4] hX (by kernel_rfl)) hL14 ?_ (fun s4 x7 hx8 hk9 => ?_)
    · refine (qBlockX (qThen ?_))
      refine HT.rg2 (oHs 2) ⟨[(6, pV 1 0)], [(1, .box [iC a1, iC a2, .all 3, .all 4]), (0, .seq (.st (.pair (.sl (.int .u8)) (.pair tI (.int .u64)))) ([r5.1])), (3, .seq tI r2.2), (4, .seq .bool r5.2)], 5⟩ hX (by kernel_rfl) allNil ?_
      have hr := of_some hr
      subst hr
      exact HT.ret ⟨[.agg [iC a1, iC a2, .all 3, .all 4]], [3, 4], [List.length ([r5.1]) = List.length [a0]], by kernel_rfl, by kernel_rfl, rfl, by kernel_rfl, by kernel_rfl, ⟨(show List.length ([r5.1]) = List.length [a0] from rfl), trivial⟩⟩
    · refine HT.seq ?_
      refine HT.rg2 (oHs 3) ⟨[(0, .one (.elp 0 0 3 0)), (1, iV a1), (6, pV 1 0), (7, pV 2 0), (9, iV s4.1), (30, bV (decide (s4.1 < a1)))], [(0, .seq (.st (.pair (.sl (.int .u8)) (.pair tI (.int .u64)))) ([s4.2.1])), (1, .box [iC (0 : Int), iC (0 : Int), .nilS, .nilS]), (2, .box [iC a1, iC a2, .all 3, .all 4]), (3, .seq tI r2.2), (4, .seq .bool s4.2.2)], 5⟩ hX (by kernel_rfl) allNil ?_
      rcases of_bif hx8 with ⟨hb10, hx8⟩ | ⟨hb10, hx8⟩
      · refine HT.cond1 rfl hb10 ?_
        refine HT.skip (qThen ?_)
        refine HT.seq ?_
        refine HT.block ?_
        obtain ⟨y11, hc12, hx8⟩ := of_bind hx8
        obtain ⟨hg13, hx8⟩ := of_guard hx8
        refine HT.drL 5 [⟨oH, []⟩, ⟨oH, [0]⟩, ⟨oH, []⟩, ⟨⟨none, .call [.own (.bx (.st (.pair (.sl (.int .u8)) (.pair tI (.int .u64))))), .imm tI] [⟨false, .bool, y11.1⟩] [⟨(.bx (.st (.pair (.sl (.int .u8)) (.pair tI (.int .u64))))), [y11.2]⟩]⟩, [2]⟩, ⟨⟨none, .ty .bool⟩, [2, 3]⟩] [[0, 1, 2, 3, 4], [0, 1, 2, 3, 4, 5], [0, 1, 2, 3, 4, 5, 6]] [⟨none, .ty .bool⟩, oH, oH] ⟨[(0, .one (.elp 0 0 3 0)), (1, iV a1), (6, pV 1 0), (7, pV 2 0), (9, iV s4.1)], [(2, .box [iC a1, iC a2, .all 3, .all 6]), (6, .seq .bool (s4.2.2 ++ ([y11.1] : List Bool))), (0, .seq (.st (.pair (.sl (.int .u8)) (.pair tI (.int .u64)))) ([y11.2])), (1, .box [iC (0 : Int), iC (0 : Int), .nilS, .nilS]), (3, .seq tI r2.2)], 7⟩ hX (by kernel_rfl) (by kernel_rfl) (allCons (f193_ok hc12) (allCons hg13 allNil)) (qBlock (qThen ?_))
        have hx8 := of_some hx8
        subst hx8
        exact HT.rgK (oHs 3) [(0, 0), (1, 1), (2, 2), (3, 3), (6, 4)] [] hX (by kernel_rfl) allNil (fun _ h => (qLoopN ⟨((wadd .i64 s4.1 (1 : Int)), y11.2, (s4.2.2 ++ ([y11.1] : List Bool))), rfl, h⟩))
      · refine HT.cond0 rfl hb10 ?_
        have hx8 := of_some hx8
        subst hx8
        exact HT.exitL (Le.re [(0, 0), (1, 1), (2, 2), (3, 3), (4, 4)] [] hX (by kernel_rfl)) (qThenE (qLoopE (hk9 (s4.2.1, s4.2.2) rfl)))
  · refine HT.seq ?_
    refine HT.rg2 (oHs 2) ⟨[(0, .one (.elp 0 0 3 0)), (1, iV a1), (6, pV 1 0), (7, pV 2 0), (8, iV s1.1), (17, bV (decide (s1.1 > (0 : Int))))], [(0, .seq (.st (.pair (.sl (.int .u8)) (.pair tI (.int .u64)))) ([s1.2.1])), (1, .box [iC (0 : Int), iC (0 : Int), .nilS, .nilS]), (2, .box [iC a1, iC a2, .all 3, .nilS]), (3, .seq tI s1.2.2)], 4⟩ hX (by kernel_rfl) allNil ?_
    rcases of_bif hx16 with ⟨hb18, hx16⟩ | ⟨hb18, hx16⟩
    · refine HT.cond1 rfl hb18 ?_
      refine HT.skip (qThen ?_)
      refine HT.seq ?_
      refine HT.block ?_
      obtain ⟨y19, hc20, hx16⟩ := of_bind hx16
      obtain ⟨hg21, hx16⟩ := of_guard hx16
      refine HT.drL 6 [⟨oH, []⟩, ⟨oH, [0]⟩, ⟨oH, []⟩, ⟨oH, []⟩, ⟨⟨none, .call [.own (.bx (.st (.pair (.sl (.int .u8)) (.pair tI (.int .u64))))), .imm tI] [⟨false, tI, y19.1⟩] [⟨(.bx (.st (.pair (.sl (.int .u8)) (.pair tI (.int .u64))))), [y19.2]⟩]⟩, [2, 3]⟩, ⟨⟨none, .ty tI⟩, [2, 3, 4]⟩] [[0, 1, 2, 3, 4, 5], [0, 1, 2, 3, 4, 5, 6], [0, 1, 2, 3, 4, 5, 6, 7]] [⟨none, .ty tI⟩, oH, oH] ⟨[(0, .one (.elp 0 0 3 0)), (1, iV a1), (6, pV 1 0), (7, pV 2 0), (8, iV s1.1)], [(2, .box [iC a1, iC a2, .all 5, .nilS]), (5, .seq tI (s1.2.2 ++ ([y19.1] : List Int))), (0, .seq (.st (.pair (.sl (.int .u8)) (.pair tI (.int .u64)))) ([y19.2])), (1, .box [iC (0 : Int), iC (0 : Int), .nilS, .nilS])], 6⟩ hX (by kernel_rfl) (by kernel_rfl) (allCons (f94_ok hc20) (allCons hg21 allNil)) (qBlock (qThen ?_))
      have hx16 := of_some hx16
      subst hx16
      exact HT.rgK (oHs 3) [(0, 0), (1, 1), (2, 2), (5, 3)] [] hX (by kernel_rfl) allNil (fun _ h => (qLoopN ⟨((wsub .i64 s1.1 (1 : Int)), y19.2, (s1.2.2 ++ ([y19.1] : List Int))), rfl, h⟩))
    · refine HT.cond0 rfl hb18 ?_
      have hx16 := of_some hx16
      subst hx16
      exact HT.exitL (Le.re [(0, 0), (1, 1), (2, 2), (3, 3)] [] hX (by kernel_rfl)) (qThenE (qLoopE (hk17 (s1.2.1, s1.2.2) rfl)))

noncomputable def spec_B10Plain (a0 : List Int) (a1 : Int) : Option ((Int × Int × List Int × List Bool)) :=
  (spec_l00From a0).bind fun y1 =>
  (spec_l00Src_pick y1 (5 : Int)).bind fun y3 =>
  (spec_l02DrawPlainSides y3.2 (wadd .i64 (1 : Int) y3.1) a1).bind fun y5 =>
  some (y5.1.1, y5.1.2.1, y5.1.2.2.1, y5.1.2.2.2)

theorem f41_ok {a0 : List Int} {a1 : Int} {r : (Int × Int × List Int × List Bool)} (hr : spec_B10Plain a0 a1 = some r) : CallOK Try.prog 41 [.imm (.sl (.int .u8)) a0, .imm tI a1] [⟨true, (.st (.pair tI (.pair tI (.pair tLI (.sl .bool))))), r⟩] [] := by
  unfold spec_B10Plain at hr
  refine CallOK.of_body (ts := [(true, (.st (.pair tI (.pair tI (.pair tLI (.sl .bool))))))]) Try.func41 rfl (by kernel_rfl) (Nat.le_of_ble_eq_true (by kernel_rfl)) fun cx hP hN hO hF => ?_
  have hO : cx.own.map Prod.fst = [] := hO
  have hX := CxIs.mk hP hN hO
  have hF := hF rfl
  show HT cx ⟨[(0, .one (.dat (.sl (.int .u8)) a0)), (1, iV a1)], [], 0⟩ _ _
  refine HT.rg2 [oH] ⟨[(0, .one (.dat (.sl (.int .u8)) a0)), (1, iV a1), (4, pV 0 0)], [(0, .box [iC (0 : Int), iC (0 : Int), .nilS, .nilS])], 1⟩ hX (by kernel_rfl) allNil ?_
  obtain ⟨y1, hc2, hr⟩ := of_bind hr
  refine HT.rg2 [oH, ⟨none, .call [.imm (.sl (.int .u8))] [⟨true, (.bx (.st (.pair (.sl (.int .u8)) (.pair tI (.int .u64))))), [y1]⟩] []⟩, oH] ⟨[(1, iV a1), (4, pV 0 0), (5, .one (.elp 1 0 3 0))], [(1, .seq (.st (.pair (.sl (.int .u8)) (.pair tI (.int .u64)))) ([y1])), (0, .box [iC (0 : Int), iC (0 : Int), .nilS, .nilS])], 2⟩ hX (by kernel_rfl) (allCons (f93_ok hc2) allNil) ?_
  obtain ⟨y3, hc4, hr⟩ := of_bind hr
  refine HT.rg2 [oH, ⟨none, .call [.own (.bx (.st (.pair (.sl (.int .u8)) (.pair tI (.int .u64))))), .imm tI] [⟨false, tI, y3.1⟩] [⟨(.bx (.st (.pair (.sl (.int .u8)) (.pair tI (.int .u64))))), [y3.2]⟩]⟩, oH, oH] ⟨[(1, iV a1), (4, pV 0 0), (5, .one (.elp 1 0 3 0)), (6, iV (wadd .i64 (1 : Int) y3.1))], [(1, .seq (.st (.pair (.sl (.int .u8)) (.pair tI (.int .u64)))) ([y3.2])), (0, .box [iC (0 : Int), iC (0 : Int), .nilS, .nilS])], 2⟩ hX (by kernel_rfl) (allCons (f94_ok hc4) allNil) ?_
  obtain ⟨y5, hc6, hr⟩ := of_bind hr
  refine HT.rg2 [oH, oH, oH, ⟨none, .call [.own (.bx (.st (.pair (.sl (.int .u8)) (.pair tI (.int .u64))))), .imm tI, .imm tI] [⟨true, (.st (.pair tI (.pair tI (.pair tLI (.sl .bool))))), y5.1⟩] [⟨(.bx (.st (.pair (.sl (.int .u8)) (.pair tI (.int .u64))))), [y5.2]⟩]⟩, oH] ⟨[(4, pV 0 0)], [(0, .box [iC y5.1.1, iC y5.1.2.1, .all 2, .all 3]), (2, .seq tI y5.1.2.2.1), (3, .seq .bool y5.1.2.2.2)], 4⟩ hX (by kernel_rfl) (allCons (f96_ok hc6) allNil) ?_
  have hr := of_some hr
  subst hr
  exact HT.ret ⟨[.agg [iC y5.1.1, iC y5.1.2.1, .all 2, .all 3]], [2, 3], [], by kernel_rfl, by kernel_rfl, rfl, by kernel_rfl, by kernel_rfl, trivial⟩

noncomputable def impl_Plain_to (a0 : Int × Int × List Int × List Bool) (a1 : Int) (a2 : Int) : Option (Int) :=
  guardP ((0 : Int) ≤ (wadd .i64 (wmul .i64 a1 a0.2.1) a2) ∧ (wadd .i64 (wmul .i64 a1 a0.2.1) a2) < lenI a0.2.2.1) (
    some (List.getD a0.2.2.1 (Int.toNat (wadd .i64 (wmul .i64 a1 a0.2.1) a2)) (0 : Int)))

theorem f199_ok {a0 : Int × Int × List Int × List Bool} {a1 : Int} {a2 : Int} {r : Int} (hr : impl_Plain_to a0 a1 a2 = some r) : CallOK Try.prog 199 [.imm (.st (.pair tI (.pair tI (.pair tLI (.sl .bool))))) a0, .imm tI a1, .imm tI a2] [⟨false, tI, r⟩] [] := by
  unfold impl_Plain_to at hr
  refine CallOK.of_body (ts := [(false, tI)]) Try.func199 rfl (by kernel_rfl) (Nat.le_of_ble_eq_true (by kernel_rfl)) fun cx hP hN hO hF => ?_
  have hO : cx.own.map Prod.fst = [] := hO
  have hX := CxIs.mk hP hN hO
  have hF := hF rfl
  show HT cx ⟨[(0, .agg [iC a0.1, iC a0.2.1, nC a0.2.2.1, .dat (.sl .bool) a0.2.2.2]), (1, iV a1), (2, iV a2)], [], 0⟩ _ _
  refine HT.rg2 (oHs 2) ⟨[(1, iV a1), (2, iV a2), (3, pV 0 0)], [(0, .box [iC a0.1, iC a0.2.1, nC a0.2.2.1, .dat (.sl .bool) a0.2.2.2])], 1⟩ hX (by kernel_rfl) allNil ?_
  obtain ⟨hg1, hr⟩ := of_guard hr
  refine HT.rg2 (oHs 11) ⟨[(6, iV (List.getD a0.2.2.1 (Int.toNat (wadd .i64 (wmul .i64 a1 a0.2.1) a2)) (0 : Int)))], [], 1⟩ hX (by kernel_rfl) (allCons hg1 allNil) ?_
  have hr := of_some hr
  subst hr
  exact HT.ret ⟨[iV (List.getD a0.2.2.1 (Int.toNat (wadd .i64 (wmul .i64 a1 a0.2.1) a2)) (0 : Int))], [], [], by kernel_rfl, by kernel_rfl, rfl, by kernel_rfl, by kernel_rfl, trivial⟩

noncomputable def impl_Plain_stateOf_B1 (a0 : Int × Int × List Int × List Bool) (a1 : List Int) (s1 : Int × Int) : Option ((Int × Int) ⊕ (Int)) :=
  bif (decide (s1.2 < (lenI a1))) then
    guardP ((0 : Int) ≤ s1.2 ∧ s1.2 < lenI a1) (
      (impl_Plain_to (a0.1, a0.2.1, a0.2.2.1, a0.2.2.2) s1.1 (List.getD a1 (Int.toNat s1.2) (0 : Int))).bind fun y9 =>
      some (.inl (y9, (wadd .i64 s1.2 (1 : Int)))))
  else
    some (.inr s1.1)

noncomputable def impl_Plain_stateOf (a0 : Int × Int × List Int × List Bool) (a1 : List Int) : Option (Int) :=
  (rounds (impl_Plain_stateOf_B1 a0 a1) ((0 : Int), (0 : Int))).bind fun r3 =>
  some r3

theorem f198_ok {a0 : Int × Int × List Int × List Bool} {a1 : List Int} {r : Int} (hr : impl_Plain_stateOf a0 a1 = some r) : CallOK Try.prog 198 [.imm (.st (.pair tI (.pair tI (.pair tLI (.sl .bool))))) a0, .imm tLI a1] [⟨false, tI, r⟩] [] := by
  unfold impl_Plain_stateOf at hr
  refine CallOK.of_body (ts := [(false, tI)]) Try.func198 rfl (by kernel_rfl) (Nat.le_of_ble_eq_true (by kernel_rfl)) fun cx hP hN hO hF => ?_
  have hO : cx.own.map Prod.fst = [] := hO
  have hX := CxIs.mk hP hN hO
  have hF := hF rfl
  show HT cx ⟨[(0, .agg [iC a0.1, iC a0.2.1, nC a0.2.2.1, .dat (.sl .bool) a0.2.2.2]), (1, nV a1)], [], 0⟩ _ _
  refine HT.rg2 (oHs 2) ⟨[(1, nV a1), (2, pV 0 0)], [(0, .box [iC a0.1, iC a0.2.1, nC a0.2.2.1, .dat (.sl .bool) a0.2.2.2])], 1⟩ hX (by kernel_rfl) allNil ?_
  refine HT.rg2 [oH] ⟨[(1, nV a1), (2, pV 0 0), (5, iV (0 : Int))], [(0, .box [iC a0.1, iC a0.2.1, nC a0.2.2.1, .dat (.sl .bool) a0.2.2.2])], 1⟩ hX (by kernel_rfl) allNil ?_
  refine HT.seq ?_
  refine HT.rg2 (oHs 3) ⟨[(2, pV 0 0), (5, iV (0 : Int)), (8, nV a1), (9, iV (lenI a1)), (10, iV (0 : Int))], [(0, .box [iC a0.1, iC a0.2.1, nC a0.2.2.1, .dat (.sl .bool) a0.2.2.2])], 1⟩ hX (by kernel_rfl) allNil ?_
  refine HT.block ?_
  obtain ⟨r2, hL11, hr⟩ := of_bind hr
  refine HT.loopL (fun (s1 : Int × Int) => ⟨[(2, pV 0 0), (5, iV s1.1), (8, nV a1), (9, iV (lenI a1)), (10, iV s1.2)], [(0, .box [iC a0.1, iC a0.2.1, nC a0.2.2.1, .dat (.sl .bool) a0.2.2.2])], 1⟩) (fun (r3 : Int) => (.exit 0, ⟨[(5, iV r3)], [], 0⟩)) (Le.re [(0, 0)] [] hX (by kernel_rfl)) hL11 ?_ (fun s1 x4 hx5 hk6 => ?_)
  · refine (qBlockX (qThen ?_))
    refine HT.rg2 (oHs 2) ⟨[(4, iV r2)], [], 0⟩ hX (by kernel_rfl) allNil ?_
    have hr := of_some hr
    subst hr
    exact HT.ret ⟨[iV r2], [], [], by kernel_rfl, by kernel_rfl, rfl, by kernel_rfl, by kernel_rfl, trivial⟩
  · refine HT.rg2 [oH] ⟨[(2, pV 0 0), (5, iV s1.1), (8, nV a1), (9, iV (lenI a1)), (10, iV s1.2), (11, bV (decide (s1.2 < (lenI a1))))], [(0, .box [iC a0.1, iC a0.2.1, nC a0.2.2.1, .dat (.sl .bool) a0.2.2.2])], 1⟩ hX (by kernel_rfl) allNil ?_
    refine HT.seq ?_
    rcases of_bif hx5 with ⟨hb7, hx5⟩ | ⟨hb7, hx5⟩
    · refine HT.cond1 rfl hb7 ?_
      refine HT.skip (qThen ?_)
      refine HT.seq ?_
      refine HT.block ?_
      obtain ⟨hg8, hx5⟩ := of_guard hx5
      refine HT.rg2 (oHs 3) ⟨[(2, pV 0 0), (5, iV s1.1), (7, iV (List.getD a1 (Int.toNat s1.2) (0 : Int))), (8, nV a1), (9, iV (lenI a1)), (10, iV s1.2)], [(0, .box [iC a0.1, iC a0.2.1, nC a0.2.2.1, .dat (.sl .bool) a0.2.2.2])], 1⟩ hX (by kernel_rfl) (allCons hg8 allNil) ?_
      obtain ⟨y9, hc10, hx5⟩ := of_bind hx5
      refine HT.rgL [oH, oH, oH, ⟨none, .call [.imm (.st (.pair tI (.pair tI (.pair tLI (.sl .bool))))), .imm tI, .imm tI] [⟨false, tI, y9⟩] []⟩, oH] ⟨[(2, pV 0 0), (5, iV y9), (8, nV a1), (9, iV (lenI a1)), (10, iV s1.2)], [(0, .box [iC a0.1, iC a0.2.1, nC a0.2.2.1, .dat (.sl .bool) a0.2.2.2])], 1⟩ hX (by kernel_rfl) (allCons (f199_ok hc10) allNil) (qBlock (qThen ?_))
      have hx5 := of_some hx5
      subst hx5
      exact HT.rgK (oHs 2) [(0, 0)] [] hX (by kernel_rfl) allNil (fun _ h => (qLoopN ⟨(y9, (wadd .i64 s1.2 (1 : Int))), rfl, h⟩))
    · refine HT.cond0 rfl hb7 ?_
      have hx5 := of_some hx5
      subst hx5
      exact HT.exitL (Le.re [] [] hX (by kernel_rfl)) (qThenE (qLoopE (hk6 s1.1 rfl)))

noncomputable def impl_statesOfLoop_B1 (a0 : Int × Int × List Int × List Bool) (a1 : List Int × List Int) (s14 : Int × Int × List Bool) : Option ((Int × Int × List Bool) ⊕ ((Int × List Bool))) :=
  bif (decide (s14.2.1 < (lenI a1.2))) then
    guardP ((0 : Int) ≤ s14.2.1 ∧ s14.2.1 < lenI a1.2) (
      (impl_Plain_to (a0.1, a0.2.1, a0.2.2.1, a0.2.2.2) s14.1 (List.getD a1.2 (Int.toNat s14.2.1) (0 : Int))).bind fun y22 =>
      guardP ((0 : Int) ≤ y22 ∧ y22 < lenI s14.2.2) (
        some (.inl (y22, (wadd .i64 s14.2.1 (1 : Int)), (List.set s14.2.2 (Int.toNat y22) true)))))
  else
    some (.inr (s14.1, s14.2.2))

noncomputable def impl_statesOfLoop_B2 (a0 : Int × Int × List Int × List Bool) (a1 : List Int × List Int) (s7 : Int × Int × List Bool) : Option ((Int × Int × List Bool) ⊕ (List Bool)) :=
  bif (decide (s7.2.1 < a0.1)) then
    (rounds (impl_statesOfLoop_B1 a0 a1) (s7.1, (0 : Int), s7.2.2)).bind fun r16 =>
    some (.inl (r16.1, (wadd .i64 s7.2.1 (1 : Int)), r16.2))
  else
    some (.inr s7.2.2)

noncomputable def impl_statesOfLoop_B3 (a0 : Int × Int × List Int × List Bool) (a1 : List Int × List Int) (s31 : Int × Int) : Option ((Int × Int) ⊕ (Int)) :=
  bif (decide (s31.2 < (lenI a1.2))) then
    guardP ((0 : Int) ≤ s31.2 ∧ s31.2 < lenI a1.2) (
      (impl_Plain_to (a0.1, a0.2.1, a0.2.2.1, a0.2.2.2) s31.1 (List.getD a1.2 (Int.toNat s31.2) (0 : Int))).bind fun y39 =>
      some (.inl (y39, (wadd .i64 s31.2 (1 : Int)))))
  else
    some (.inr s31.1)

noncomputable def impl_statesOfLoop_B4 (a0 : Int × Int × List Int × List Bool) (a1 : List Int × List Int) (s3 : Int × Int) : Option ((Int × Int) ⊕ (Int)) :=
  bif (decide (s3.2 < a0.1)) then
    (rounds (impl_statesOfLoop_B3 a0 a1) (s3.1, (0 : Int))).bind fun r33 =>
    some (.inl (r33, (wadd .i64 s3.2 (1 : Int))))
  else
    some (.inr s3.1)

noncomputable def impl_statesOfLoop (a0 : Int × Int × List Int × List Bool) (a1 : List Int × List Int) : Option (List Bool) :=
  (impl_Plain_stateOf (a0.1, a0.2.1, a0.2.2.1, a0.2.2.2) a1.1).bind fun y1 =>
  (rounds (impl_statesOfLoop_B4 a0 a1) (y1, (0 : Int))).bind fun r5 =>
  guardP ((0 : Int) ≤ a0.1 ∧ a0.1 ≤ 4294967296) (
    (rounds (impl_statesOfLoop_B2 a0 a1) (r5, (0 : Int), (List.replicate (Int.toNat a0.1) false))).bind fun r9 =>
    some r9)

theorem f120_ok {a0 : Int × Int × List Int × List Bool} {a1 : List Int × List Int} {r : List Bool} (hr : impl_statesOfLoop a0 a1 = some r) : CallOK Try.prog 120 [.imm (.st (.pair tI (.pair tI (.pair tLI (.sl .bool))))) a0, .imm (.st (.pair tLI tLI)) a1] [⟨true, (.sl .bool), r⟩] [] := by
  unfold impl_statesOfLoop at hr
  refine CallOK.of_body (ts := [(true, (.sl .bool))]) Try.func120 rfl (by kernel_rfl) (Nat.le_of_ble_eq_true (by kernel_rfl)) fun cx hP hN hO hF => ?_
  have hO : cx.own.map Prod.fst = [] := hO
  have hX := CxIs.mk hP hN hO
  have hF := hF rfl
  show HT cx ⟨[(0, .agg [iC a0.1, iC a0.2.1, nC a0.2.2.1, .dat (.sl .bool) a0.2.2.2]), (1, .agg [nC a1.1, nC a1.2])], [], 0⟩ _ _
  refine HT.rg2 (oHs 3) ⟨[(2, pV 0 0), (3, pV 1 0)], [(1, .box [nC a1.1, nC a1.2]), (0, .box [iC a0.1, iC a0.2.1, nC a0.2.2.1, .dat (.sl .bool) a0.2.2.2])], 2⟩ hX (by kernel_rfl) allNil ?_
  obtain ⟨y1, hc2, hr⟩ := of_bind hr
  refine HT.rg2 [oH, oH, oH, ⟨none, .call [.imm (.st (.pair tI (.pair tI (.pair tLI (.sl .bool))))), .imm tLI] [⟨false, tI, y1⟩] []⟩, oH] ⟨[(2, pV 0 0), (3, pV 1 0), (5, iV y1)], [(1, .box [nC a1.1, nC a1.2]), (0, .box [iC a0.1, iC a0.2.1, nC a0.2.2.1, .dat (.sl .bool) a0.2.2.2])], 2⟩ hX (by kernel_rfl) (allCons (f198_ok hc2) allNil) ?_
  refine HT.seq ?_
  refine HT.rg2 (oHs 3) ⟨[(2, pV 0 0), (3, pV 1 0), (5, iV y1), (16, iV a0.1), (17, iV (0 : Int))], [(1, .box [nC a1.1, nC a1.2]), (0, .box [iC a0.1, iC a0.2.1, nC a0.2.2.1, .dat (.sl .bool) a0.2.2.2])], 2⟩ hX (by kernel_rfl) allNil ?_
  refine HT.block ?_
  obtain ⟨r4, hL42, hr⟩ := of_bind hr
  refine HT.loopL (fun (s3 : Int × Int) => ⟨[(2, pV 0 0), (3, pV 1 0), (5, iV s3.1), (16, iV a0.1), (17, iV s3.2)], [(0, .box [iC a0.1, iC a0.2.1, nC a0.2.2.1, .dat (.sl .bool) a0.2.2.2]), (1, .box [nC a1.1, nC a1.2])], 2⟩) (fun (r5 : Int) => (.exit 0, ⟨[(2, pV 0 0), (3, pV 1 0), (5, iV r5)], [(0, .box [iC a0.1, iC a0.2.1, nC a0.2.2.1, .dat (.sl .bool) a0.2.2.2]), (1, .box [nC a1.1, nC a1.2])], 2⟩)) (Le.re [(0, 0), (1, 1)] [] hX (by kernel_rfl)) hL42 ?_ (fun s3 x27 hx28 hk29 => ?_)
  · refine (qBlockX (qThen ?_))
    obtain ⟨hg6, hr⟩ := of_guard hr
    refine HT.rg2 [oH, oH, ⟨none, .ty .bool⟩, oH] ⟨[(2, pV 0 0), (3, pV 1 0), (5, iV r4), (8, aV 2)], [(2, .seq .bool (List.replicate (Int.toNat a0.1) false)), (0, .box [iC a0.1, iC a0.2.1, nC a0.2.2.1, .dat (.sl .bool) a0.2.2.2]), (1, .box [nC a1.1, nC a1.2])], 3⟩ hX (by kernel_rfl) (allCons (show (0 : Int) ≤ a0.1 ∧ a0.1 ≤ a0.1 ∧ a0.1 ≤ 4294967296 from ⟨hg6.1, Int.le_refl _, hg6.2⟩) allNil) ?_
    refine HT.seq ?_
    refine HT.rg2 (oHs 3) ⟨[(2, pV 0 0), (3, pV 1 0), (5, iV r4), (8, aV 2), (36, iV a0.1), (37, iV (0 : Int))], [(2, .seq .bool (List.replicate (Int.toNat a0.1) false)), (0, .box [iC a0.1, iC a0.2.1, nC a0.2.2.1, .dat (.sl .bool) a0.2.2.2]), (1, .box [nC a1.1, nC a1.2])], 3⟩ hX (by kernel_rfl) allNil ?_
    refine HT.block ?_
    obtain ⟨r8, hL26, hr⟩ := of_bind hr
    refine HT.loopL (fun (s7 : Int × Int × List Bool) => ⟨[(2, pV 0 0), (3, pV 1 0), (5, iV s7.1), (8, aV 2), (36, iV a0.1), (37, iV s7.2.1)], [(0, .box [iC a0.1, iC a0.2.1, nC a0.2.2.1, .dat (.sl .bool) a0.2.2.2]), (1, .box [nC a1.1, nC a1.2]), (2, .seq .bool s7.2.2)], 3⟩) (fun (r9 : List Bool) => (.exit 4, ⟨[(8, aV 0)], [(0, .seq .bool r9)], 1⟩)) (Le.re [(0, 0), (1, 1), (2, 2)] [] hX (by kernel_rfl)) hL26 ?_ (fun s7 x10 hx11 hk12 => ?_)
    · refine (qBlockX (qThen ?_))
      refine HT.rg2 (oHs 2) ⟨[(4, aV 0)], [(0, .seq .bool r8)], 1⟩ hX (by kernel_rfl) allNil ?_
      have hr := of_some hr
      subst hr
      exact HT.ret ⟨[aV 0], [0], [], by kernel_rfl, by kernel_rfl, rfl, by kernel_rfl, by kernel_rfl, trivial⟩
    · refine HT.rg2 [oH] ⟨[(2, pV 0 0), (3, pV 1 0), (5, iV s7.1), (8, aV 2), (36, iV a0.1), (37, iV s7.2.1), (38, bV (decide (s7.2.1 < a0.1)))], [(0, .box [iC a0.1, iC a0.2.1, nC a0.2.2.1, .dat (.sl .bool) a0.2.2.2]), (1, .box [nC a1.1, nC a1.2]), (2, .seq .bool s7.2.2)], 3⟩ hX (by kernel_rfl) allNil ?_
      refine HT.seq ?_
      rcases of_bif hx11 with ⟨hb13, hx11⟩ | ⟨hb13, hx11⟩
      · refine HT.cond1 rfl hb13 ?_
        refine HT.skip (qThen ?_)
        refine HT.seq ?_
        refine HT.block ?_
        refine HT.rg2 (oHs 4) ⟨[(2, pV 0 0), (3, pV 1 0), (5, iV s7.1), (8, aV 2), (36, iV a0.1), (37, iV s7.2.1), (40, nV a1.2), (41, iV (lenI a1.2)), (42, iV (0 : Int))], [(0, .box [iC a0.1, iC a0.2.1, nC a0.2.2.1, .dat (.sl .bool) a0.2.2.2]), (1, .box [nC a1.1, nC a1.2]), (2, .seq .bool s7.2.2)], 3⟩ hX (by kernel_rfl) allNil ?_
        refine HT.block ?_
        obtain ⟨r15, hL25, hx11⟩ := of_bind hx11
        refine HT.loopL (fun (s14 : Int × Int × List Bool) => ⟨[(2, pV 0 0), (3, pV 1 0), (5, iV s14.1), (8, aV 2), (36, iV a0.1), (37, iV s7.2.1), (40, nV a1.2), (41, iV (lenI a1.2)), (42, iV s14.2.1)], [(0, .box [iC a0.1, iC a0.2.1, nC a0.2.2.1, .dat (.sl .bool) a0.2.2.2]), (1, .box [nC a1.1, nC a1.2]), (2, .seq .bool s14.2.2)], 3⟩) (fun (r16 : (Int × List Bool)) => (.exit 6, ⟨[(2, pV 0 0), (3, pV 1 0), (5, iV r16.1), (8, aV 2), (36, iV a0.1), (37, iV s7.2.1)], [(0, .box [iC a0.1, iC a0.2.1, nC a0.2.2.1, .dat (.sl .bool) a0.2.2.2]), (1, .box [nC a1.1, nC a1.2]), (2, .seq .bool r16.2)], 3⟩)) (Le.re [(0, 0), (1, 1), (2, 2)] [] hX (by kernel_rfl)) hL25 ?_ (fun s14 x17 hx18 hk19 => ?_)
        · refine (qBlockX (qBlock (qThen ?_)))
          have hx11 := of_some hx11
          subst hx11
          exact HT.rgK (oHs 2) [(0, 0), (1, 1), (2, 2)] [] hX (by kernel_rfl) allNil (fun _ h => (qLoopN ⟨(r15.1, (wadd .i64 s7.2.1 (1 : Int)), r15.2), rfl, h⟩))
        · refine HT.rg2 [oH] ⟨[(2, pV 0 0), (3, pV 1 0), (5, iV s14.1), (8, aV 2), (36, iV a0.1), (37, iV s7.2.1), (40, nV a1.2), (41, iV (lenI a1.2)), (42, iV s14.2.1), (43, bV (decide (s14.2.1 < (lenI a1.2))))], [(0, .box [iC a0.1, iC a0.2.1, nC a0.2.2.1, .dat (.sl .bool) a0.2.2.2]), (1, .box [nC a1.1, nC a1.2]), (2, .seq .bool s14.2.2)], 3⟩ hX (by kernel_rfl) allNil ?_
          refine HT.seq ?_
          rcases of_bif hx18 with ⟨hb20, hx18⟩ | ⟨hb20, hx18⟩
          · refine HT.cond1 rfl hb20 ?_
            refine HT.skip (qThen ?_)
            refine HT.seq ?_
            refine HT.block ?_
            obtain ⟨hg21, hx18⟩ := of_guard hx18
            refine HT.rg2 (oHs 3) ⟨[(2, pV 0 0), (3, pV 1 0), (5, iV s14.1), (8, aV 2), (10, iV (List.getD a1.2 (Int.toNat s14.2.1) (0 : Int))), (36, iV a0.1), (37, iV s7.2.1), (40, nV a1.2), (41, iV (lenI a1.2)), (42, iV s14.2.1)], [(0, .box [iC a0.1, iC a0.2.1, nC a0.2.2.1, .dat (.sl .bool) a0.2.2.2]), (1, .box [nC a1.1, nC a1.2]), (2, .seq .bool s14.2.2)], 3⟩ hX (by kernel_rfl) (allCons hg21 allNil) ?_
            obtain ⟨y22, hc23, hx18⟩ := of_bind hx18
            refine HT.rg2 [oH, oH, oH, ⟨none, .call [.imm (.st (.pair tI (.pair tI (.pair tLI (.sl .bool))))), .imm tI, .imm tI] [⟨false, tI, y22⟩] []⟩, oH] ⟨[(2, pV 0 0), (3, pV 1 0), (5, iV y22), (8, aV 2), (36, iV a0.1), (37, iV s7.2.1), (40, nV a1.2), (41, iV (lenI a1.2)), (42, iV s14.2.1)], [(0, .box [iC a0.1, iC a0.2.1, nC a0.2.2.1, .dat (.sl .bool) a0.2.2.2]), (1, .box [nC a1.1, nC a1.2]), (2, .seq .bool s14.2.2)], 3⟩ hX (by kernel_rfl) (allCons (f199_ok hc23) allNil) ?_
            obtain ⟨hg24, hx18⟩ := of_guard hx18
            refine HT.rgL (oHs 4) ⟨[(2, pV 0 0), (3, pV 1 0), (5, iV y22), (8, aV 2), (36, iV a0.1), (37, iV s7.2.1), (40, nV a1.2), (41, iV (lenI a1.2)), (42, iV s14.2.1)], [(2, .seq .bool (List.set s14.2.2 (Int.toNat y22) true)), (0, .box [iC a0.1, iC a0.2.1, nC a0.2.2.1, .dat (.sl .bool) a0.2.2.2]), (1, .box [nC a1.1, nC a1.2])], 3⟩ hX (by kernel_rfl) (allCons hg24 (allCons (natLt hg24) allNil)) (qBlock (qThen ?_))
            have hx18 := of_some hx18
            subst hx18
            exact HT.rgK (oHs 2) [(0, 0), (1, 1), (2, 2)] [] hX (by kernel_rfl) allNil (fun _ h => (qLoopN ⟨(y22, (wadd .i64 s14.2.1 (1 : Int)), (List.set s14.2.2 (Int.toNat y22) true)), rfl, h⟩))
          · refine HT.cond0 rfl hb20 ?_
            have hx18 := of_some hx18
            subst hx18
            exact HT.exitL (Le.re [(0, 0), (1, 1), (2, 2)] [] hX (by kernel_rfl)) (qThenE (qLoopE (hk19 (s14.1, s14.2.2) rfl)))
      · refine HT.cond0 rfl hb13 ?_
        have hx11 := of_some hx11
        subst hx11
        exact HT.exitL (Le.re [(2, 0)] [] hX (by kernel_rfl)) (qThenE (qLoopE (hk12 s7.2.2 rfl)))
  · refine HT.rg2 [oH] ⟨[(2, pV 0 0), (3, pV 1 0), (5, iV s3.1), (16, iV a0.1), (17, iV s3.2), (18, bV (decide (s3.2 < a0.1)))], [(0, .box [iC a0.1, iC a0.2.1, nC a0.2.2.1, .dat (.sl .bool) a0.2.2.2]), (1, .box [nC a1.1, nC a1.2])], 2⟩ hX (by kernel_rfl) allNil ?_
    refine HT.seq ?_
    rcases of_bif hx28 with ⟨hb30, hx28⟩ | ⟨hb30, hx28⟩
    · refine HT.cond1 rfl hb30 ?_
      refine HT.skip (qThen ?_)
      refine HT.seq ?_
      refine HT.block ?_
      refine HT.rg2 (oHs 4) ⟨[(2, pV 0 0), (3, pV 1 0), (5, iV s3.1), (16, iV a0.1), (17, iV s3.2), (20, nV a1.2), (21, iV (lenI a1.2)), (22, iV (0 : Int))], [(0, .box [iC a0.1, iC a0.2.1, nC a0.2.2.1, .dat (.sl .bool) a0.2.2.2]), (1, .box [nC a1.1, nC a1.2])], 2⟩ hX (by kernel_rfl) allNil ?_
      refine HT.block ?_
      obtain ⟨r32, hL41, hx28⟩ := of_bind hx28
      refine HT.loopL (fun (s31 : Int × Int) => ⟨[(2, pV 0 0), (3, pV 1 0), (5, iV s31.1), (16, iV a0.1), (17, iV s3.2), (20, nV a1.2), (21, iV (lenI a1.2)), (22, iV s31.2)], [(0, .box [iC a0.1, iC a0.2.1, nC a0.2.2.1, .dat (.sl .bool) a0.2.2.2]), (1, .box [nC a1.1, nC a1.2])], 2⟩) (fun (r33 : Int) => (.exit 2, ⟨[(2, pV 0 0), (3, pV 1 0), (5, iV r33), (16, iV a0.1), (17, iV s3.2)], [(0, .box [iC a0.1, iC a0.2.1, nC a0.2.2.1, .dat (.sl .bool) a0.2.2.2]), (1, .box [nC a1.1, nC a1.2])], 2⟩)) (Le.re [(0, 0), (1, 1)] [] hX (by kernel_rfl)) hL41 ?_ (fun s31 x34 hx35 hk36 => ?_)
      · refine (qBlockX (qBlock (qThen ?_)))
        have hx28 := of_some hx28
        subst hx28
        exact HT.rgK (oHs 2) [(0, 0), (1, 1)] [] hX (by kernel_rfl) allNil (fun _ h => (qLoopN ⟨(r32, (wadd .i64 s3.2 (1 : Int))), rfl, h⟩))
      · refine HT.rg2 [oH] ⟨[(2, pV 0 0), (3, pV 1 0), (5, iV s31.1), (16, iV a0.1), (17, iV s3.2), (20, nV a1.2), (21, iV (lenI a1.2)), (22, iV s31.2), (23, bV (decide (s31.2 < (lenI a1.2))))], [(0, .box [iC a0.1, iC a0.2.1, nC a0.2.2.1, .dat (.sl .bool) a0.2.2.2]), (1, .box [nC a1.1, nC a1.2])], 2⟩ hX (by kernel_rfl) allNil ?_
        refine HT.seq ?_
        rcases of_bif hx35 with ⟨hb37, hx35⟩ | ⟨hb37, hx35⟩
        · refine HT.cond1 rfl hb37 ?_
          refine HT.skip (qThen ?_)
          refine HT.seq ?_
          refine HT.block ?_
          obtain ⟨hg38, hx35⟩ := of_guard hx35
          refine HT.rg2 (oHs 3) ⟨[(2, pV 0 0), (3, pV 1 0), (5, iV s31.1), (7, iV (List.getD a1.2 (Int.toNat s31.2) (0 : Int))), (16, iV a0.1), (17, iV s3.2), (20, nV a1.2), (21, iV (lenI a1.2)), (22, iV s31.2)], [(0, .box [iC a0.1, iC a0.2.1, nC a0.2.2.1, .dat (.sl .bool) a0.2.2.2]), (1, .box [nC a1.1, nC a1.2])], 2⟩ hX (by kernel_rfl) (allCons hg38 allNil) ?_
          obtain ⟨y39, hc40, hx35⟩ := of_bind hx35
          refine HT.rgL [oH, oH, oH, ⟨none, .call [.imm (.st (.pair tI (.pair tI (.pair tLI (.sl .bool))))), .imm tI, .imm tI] [⟨false, tI, y39⟩] []⟩, oH] ⟨[(2, pV 0 0), (3, pV 1 0), (5, iV y39), (16, iV a0.1), (17, iV s3.2), (20, nV a1.2), (21, iV (lenI a1.2)), (22, iV s31.2)], [(0, .box [iC a0.1, iC a0.2.1, nC a0.2.2.1, .dat (.sl .bool) a0.2.2.2]), (1, .box [nC a1.1, nC a1.2])], 2⟩ hX (by kernel_rfl) (allCons (f199_ok hc40) allNil) (qBlock (qThen ?_))
          have hx35 := of_some hx35
          subst hx35
          exact HT.rgK (oHs 2) [(0, 0), (1, 1)] [] hX (by kernel_rfl) allNil (fun _ h => (qLoopN ⟨(y39, (wadd .i64 s31.2 (1 : Int))), rfl, h⟩))
        · refine HT.cond0 rfl hb37 ?_
          have hx35 := of_some hx35
          subst hx35
          exact HT.exitL (Le.re [(0, 0), (1, 1)] [] hX (by kernel_rfl)) (qThenE (qLoopE (hk36 s31.1 rfl)))
    · refine HT.cond0 rfl hb30 ?_
      have hx28 := of_some hx28
      subst hx28
      exact HT.exitL (Le.re [(0, 0), (1, 1)] [] hX (by kernel_rfl)) (qThenE (qLoopE (hk29 s3.1 rfl)))

noncomputable def impl_indicesOf_B1 (a0 : List Bool) (s1 : Int × List Int) : Option ((Int × List Int) ⊕ (List Int)) :=
  bif (decide (s1.1 < (lenI a0))) then
    (show Option (List Int) from
      guardP ((0 : Int) ≤ s1.1 ∧ s1.1 < lenI a0) (
        bif (List.getD a0 (Int.toNat s1.1) false) then
          guardP (List.length s1.2 + List.length ([s1.1] : List Int) ≤ appMax) (
            some (s1.2 ++ ([s1.1] : List Int)))
        else
          some s1.2)).bind fun v8 =>
    some (.inl ((wadd .i64 s1.1 (1 : Int)), v8))
  else
    some (.inr s1.2)

noncomputable def impl_indicesOf (a0 : List Bool) : Option (List Int) :=
  (rounds (impl_indicesOf_B1 a0) ((0 : Int), ([] : List Int))).bind fun r3 =>
  some r3

theorem f119_ok {a0 : List Bool} {r : List Int} (hr : impl_indicesOf a0 = some r) : CallOK Try.prog 119 [.imm (.sl .bool) a0] [⟨true, tLI, r⟩] [] := by
  unfold impl_indicesOf at hr
  refine CallOK.of_body (ts := [(true, tLI)]) Try.func119 rfl (by kernel_rfl) (Nat.le_of_ble_eq_true (by kernel_rfl)) fun cx hP hN hO hF => ?_
  have hO : cx.own.map Prod.fst = [] := hO
  have hX := CxIs.mk hP hN hO
  have hF := hF rfl
  show HT cx ⟨[(0, .one (.dat (.sl .bool) a0))], [], 0⟩ _ _
  refine HT.rg2 [oH] ⟨[(0, .one (.dat (.sl .bool) a0))], [], 0⟩ hX (by kernel_rfl) allNil ?_
  refine HT.rg2 (oHs 2) ⟨[(0, .one (.dat (.sl .bool) a0)), (3, .one (.nilS))], [], 0⟩ hX (by kernel_rfl) allNil ?_
  refine HT.seq ?_
  refine HT.rg2 (oHs 3) ⟨[(3, .one (.nilS)), (7, .one (.dat (.sl .bool) a0)), (8, iV (lenI a0)), (9, iV (0 : Int))], [], 0⟩ hX (by kernel_rfl) allNil ?_
  refine HT.block ?_
  obtain ⟨r2, hL14, hr⟩ := of_bind hr
  refine HT.loopL (fun (s1 : Int × List Int) => ⟨[(3, aV 0), (7, .one (.dat (.sl .bool) a0)), (8, iV (lenI a0)), (9, iV s1.1)], [(0, .seq tI s1.2)], 1⟩) (fun (r3 : List Int) => (.exit 0, ⟨[(3, aV 0)], [(0, .seq tI r3)], 1⟩)) (Le.re [] [0] hX (by kernel_rfl)) hL14 ?_ (fun s1 x4 hx5 hk6 => ?_)
  · refine (qBlockX (qThen ?_))
    refine HT.rg2 (oHs 2) ⟨[(2, aV 0)], [(0, .seq tI r2)], 1⟩ hX (by kernel_rfl) allNil ?_
    have hr := of_some hr
    subst hr
    exact HT.ret ⟨[aV 0], [0], [], by kernel_rfl, by kernel_rfl, rfl, by kernel_rfl, by kernel_rfl, trivial⟩
  · refine HT.rg2 [oH] ⟨[(3, aV 0), (7, .one (.dat (.sl .bool) a0)), (8, iV (lenI a0)), (9, iV s1.1), (10, bV (decide (s1.1 < (lenI a0))))], [(0, .seq tI s1.2)], 1⟩ hX (by kernel_rfl) allNil ?_
    refine HT.seq ?_
    rcases of_bif hx5 with ⟨hb7, hx5⟩ | ⟨hb7, hx5⟩
    · refine HT.cond1 rfl hb7 ?_
      refine HT.skip (qThen ?_)
      obtain ⟨v8', hT10, hx5⟩ := of_bind hx5
      refine HT.join (fun (v8 : List Int) => ⟨[(3, aV 0), (7, .one (.dat (.sl .bool) a0)), (8, iV (lenI a0)), (9, iV s1.1)], [(0, .seq tI v8)], 1⟩) (fun v => v = v8') (fun v8 hv9 => ?_) (fun cont => ?_)
      · subst hv9
        have hx5 := of_some hx5
        subst hx5
        exact HT.rgK (oHs 2) [(0, 0)] [] hX (by kernel_rfl) allNil (fun _ h => (qLoopN ⟨((wadd .i64 s1.1 (1 : Int)), v8), rfl, h⟩))
      · refine HT.block ?_
        obtain ⟨hg11, hT10⟩ := of_guard hT10
        refine HT.rg2 (oHs 5) ⟨[(3, aV 0), (4, iV s1.1), (5, bV (List.getD a0 (Int.toNat s1.1) false)), (7, .one (.dat (.sl .bool) a0)), (8, iV (lenI a0)), (9, iV s1.1)], [(0, .seq tI s1.2)], 1⟩ hX (by kernel_rfl) (allCons hg11 allNil) ?_
        refine HT.rg2 [oH] ⟨[(3, aV 0), (4, iV s1.1), (7, .one (.dat (.sl .bool) a0)), (8, iV (lenI a0)), (9, iV s1.1), (14, bV (List.getD a0 (Int.toNat s1.1) false))], [(0, .seq tI s1.2)], 1⟩ hX (by kernel_rfl) allNil ?_
        rcases of_bif hT10 with ⟨hb12, hT10⟩ | ⟨hb12, hT10⟩
        · refine HT.cond1 rfl hb12 ?_
          obtain ⟨hg13, hT10⟩ := of_guard hT10
          exact HT.rgK [oH, oH, ⟨none, .ty tI⟩, ⟨none, .ty tI⟩, oH] [(2, 0)] [] hX (by kernel_rfl) (allCons hg13 allNil) (fun _ h => (qBlock (qThen (h.ht (cont (s1.2 ++ ([s1.1] : List Int)) (of_some hT10))))))
        · refine HT.cond0 rfl hb12 ?_
          refine HT.skip (qBlock (qThen ?_))
          exact (Le.re [(0, 0)] [] hX (by kernel_rfl)).ht (cont s1.2 (of_some hT10))
    · refine HT.cond0 rfl hb7 ?_
      have hx5 := of_some hx5
      subst hx5
      exact HT.exitL (Le.re [(0, 0)] [] hX (by kernel_rfl)) (qThenE (qLoopE (hk6 s1.2 rfl)))

noncomputable def impl_ValidPlain (a0 : Int × Int × List Int × List Bool) : Option (Bool) :=
  (show Option (Bool) from
    (impl_within a0.1 (1 : Int) (64 : Int)).bind fun y4 =>
    bif y4 then
      (impl_within a0.2.1 (1 : Int) (4 : Int)).bind fun y7 =>
      bif y7 then
        bif ((lenI a0.2.2.1) == (wmul .i64 a0.1 a0.2.1)) then
          (impl_areWithin a0.2.2.1 (0 : Int) (wsub .i64 a0.1 (1 : Int))).bind fun y11 =>
          bif y11 then
            some ((lenI a0.2.2.2) == a0.1)
          else
            some false
        else
          some false
      else
        some false
    else
      some false).bind fun v1 =>
  some v1

theorem f100_ok {a0 : Int × Int × List Int × List Bool} {r : Bool} (hr : impl_ValidPlain a0 = some r) : CallOK Try.prog 100 [.imm (.st (.pair tI (.pair tI (.pair tLI (.sl .bool))))) a0] [⟨false, .bool, r⟩] [] := by
  unfold impl_ValidPlain at hr
  refine CallOK.of_body (ts := [(false, .bool)]) Try.func100 rfl (by kernel_rfl) (Nat.le_of_ble_eq_true (by kernel_rfl)) fun cx hP hN hO hF => ?_
  have hO : cx.own.map Prod.fst = [] := hO
  have hX := CxIs.mk hP hN hO
  have hF := hF rfl
  show HT cx ⟨[(0, .agg [iC a0.1, iC a0.2.1, nC a0.2.2.1, .dat (.sl .bool) a0.2.2.2])], [], 0⟩ _ _
  refine HT.rg2 (oHs 2) ⟨[(1, pV 0 0)], [(0, .box [iC a0.1, iC a0.2.1, nC a0.2.2.1, .dat (.sl .bool) a0.2.2.2])], 1⟩ hX (by kernel_rfl) allNil ?_
  obtain ⟨v1', hT3, hr⟩ := of_bind hr
  refine HT.join (fun (v1 : Bool) => ⟨[(2, bV v1)], [], 0⟩) (fun v => v = v1') (fun v1 hv2 => ?_) (fun cont => ?_)
  · subst hv2
    have hr := of_some hr
    subst hr
    exact HT.ret ⟨[bV v1], [], [], by kernel_rfl, by kernel_rfl, rfl, by kernel_rfl, by kernel_rfl, trivial⟩
  · obtain ⟨y4, hc5, hT3⟩ := of_bind hT3
    rcases of_bif hT3 with ⟨hb6, hT3⟩ | ⟨hb6, hT3⟩
    · obtain ⟨y7, hc8, hT3⟩ := of_bind hT3
      rcases of_bif hT3 with ⟨hb9, hT3⟩ | ⟨hb9, hT3⟩
      · rcases of_bif hT3 with ⟨hb10, hT3⟩ | ⟨hb10, hT3⟩
        · obtain ⟨y11, hc12, hT3⟩ := of_bind hT3
          rcases of_bif hT3 with ⟨hb13, hT3⟩ | ⟨hb13, hT3⟩
          · exact HT.rgK [oH, oH, ⟨none, .call [.imm tI, .imm tI, .imm tI] [⟨false, .bool, y4⟩] []⟩, oH, ⟨some true, .no⟩, ⟨some true, .no⟩, ⟨some true, .call [.imm tI, .imm tI, .imm tI] [⟨false, .bool, y7⟩] []⟩, ⟨none, .tv true⟩, oH, ⟨some true, .no⟩, ⟨some true, .no⟩, ⟨some true, .no⟩, ⟨some true, .no⟩, ⟨some true, .no⟩, ⟨some true, .no⟩, ⟨some true, .no⟩, ⟨some true, .no⟩, ⟨some true, .no⟩, ⟨none, .tv true⟩, oH, ⟨some true, .no⟩, ⟨some true, .no⟩, ⟨some true, .no⟩, ⟨some true, .no⟩, ⟨some true, .no⟩, ⟨some true, .call [.imm tLI, .imm tI, .imm tI] [⟨false, .bool, y11⟩] []⟩, ⟨none, .tv true⟩, oH, ⟨some true, .no⟩, ⟨some true, .no⟩, ⟨some true, .no⟩, ⟨some true, .no⟩, ⟨some true, .no⟩, ⟨some true, .no⟩, ⟨none, .tv true⟩, oH] [] [] hX (by kernel_rfl) (allCons (f111_ok hc5) (allCons hb6 (allCons hb6 (allCons hb6 (allCons (f111_ok hc8) (allCons hb6 (allCons hb9 (allCons hb9 (allCons hb9 (allCons hb9 (allCons hb9 (allCons hb9 (allCons hb9 (allCons hb9 (allCons hb9 (allCons hb9 (allCons hb10 (allCons hb10 (allCons hb10 (allCons hb10 (allCons hb10 (allCons hb10 (allCons (f113_ok hc12) (allCons hb10 (allCons hb13 (allCons hb13 (allCons hb13 (allCons hb13 (allCons hb13 (allCons hb13 (allCons hb13 allNil))))))))))))))))))))))))))))))) (fun _ h => (qThen (h.ht (cont ((lenI a0.2.2.2) == a0.1) (of_some hT3)))))
          · exact HT.rgK [oH, oH, ⟨none, .call [.imm tI, .imm tI, .imm tI] [⟨false, .bool, y4⟩] []⟩, oH, ⟨some true, .no⟩, ⟨some true, .no⟩, ⟨some true, .call [.imm tI, .imm tI, .imm tI] [⟨false, .bool, y7⟩] []⟩, ⟨none, .tv true⟩, oH, ⟨some true, .no⟩, ⟨some true, .no⟩, ⟨some true, .no⟩, ⟨some true, .no⟩, ⟨some true, .no⟩, ⟨some true, .no⟩, ⟨some true, .no⟩, ⟨some true, .no⟩, ⟨some true, .no⟩, ⟨none, .tv true⟩, oH, ⟨some true, .no⟩, ⟨some true, .no⟩, ⟨some true, .no⟩, ⟨some true, .no⟩, ⟨some true, .no⟩, ⟨some true, .call [.imm tLI, .imm tI, .imm tI] [⟨false, .bool, y11⟩] []⟩, ⟨none, .tv true⟩, oH, ⟨some false, .no⟩, ⟨some false, .no⟩, ⟨some false, .no⟩, ⟨some false, .no⟩, ⟨some false, .no⟩, ⟨some false, .no⟩, ⟨none, .tv false⟩, oH] [] [] hX (by kernel_rfl) (allCons (f111_ok hc5) (allCons hb6 (allCons hb6 (allCons hb6 (allCons (f111_ok hc8) (allCons hb6 (allCons hb9 (allCons hb9 (allCons hb9 (allCons hb9 (allCons hb9 (allCons hb9 (allCons hb9 (allCons hb9 (allCons hb9 (allCons hb9 (allCons hb10 (allCons hb10 (allCons hb10 (allCons hb10 (allCons hb10 (allCons hb10 (allCons (f113_ok hc12) (allCons hb10 (allCons hb13 (allCons hb13 (allCons hb13 (allCons hb13 (allCons hb13 (allCons hb13 (allCons hb13 allNil))))))))))))))))))))))))))))))) (fun _ h => (qThen (h.ht (cont false (of_some hT3)))))
        · exact HT.rgK [oH, oH, ⟨none, .call [.imm tI, .imm tI, .imm tI] [⟨false, .bool, y4⟩] []⟩, oH, ⟨some true, .no⟩, ⟨some true, .no⟩, ⟨some true, .call [.imm tI, .imm tI, .imm tI] [⟨false, .bool, y7⟩] []⟩, ⟨none, .tv true⟩, oH, ⟨some true, .no⟩, ⟨some true, .no⟩, ⟨some true, .no⟩, ⟨some true, .no⟩, ⟨some true, .no⟩, ⟨some true, .no⟩, ⟨some true, .no⟩, ⟨some true, .no⟩, ⟨some true, .no⟩, ⟨none, .tv true⟩, oH, ⟨some false, .no⟩, ⟨some false, .no⟩, ⟨some false, .no⟩, ⟨some false, .no⟩, ⟨some false, .no⟩, ⟨some false, .no⟩, ⟨none, .tv false⟩, oH, ⟨some false, .no⟩, ⟨some false, .no⟩, ⟨some false, .no⟩, ⟨some false, .no⟩, ⟨some false, .no⟩, ⟨some false, .no⟩, ⟨none, .tv false⟩, oH] [] [] hX (by kernel_rfl) (allCons (f111_ok hc5) (allCons hb6 (allCons hb6 (allCons hb6 (allCons (f111_ok hc8) (allCons hb6 (allCons hb9 (allCons hb9 (allCons hb9 (allCons hb9 (allCons hb9 (allCons hb9 (allCons hb9 (allCons hb9 (allCons hb9 (allCons hb9 (allCons hb10 (allCons hb10 (allCons hb10 (allCons hb10 (allCons hb10 (allCons hb10 (allCons hb10 (allCons (rfl : false = false) (allCons (rfl : false = false) (allCons (rfl : false = false) (allCons (rfl : false = false) (allCons (rfl : false = false) (allCons (rfl : false = false) (allCons (rfl : false = false) allNil)))))))))))))))))))))))))))))) (fun _ h => (qThen (h.ht (cont false (of_some hT3)))))
      · exact HT.rgK [oH, oH, ⟨none, .call [.imm tI, .imm tI, .imm tI] [⟨false, .bool, y4⟩] []⟩, oH, ⟨some true, .no⟩, ⟨some true, .no⟩, ⟨some true, .call [.imm tI, .imm tI, .imm tI] [⟨false, .bool, y7⟩] []⟩, ⟨none, .tv true⟩, oH, ⟨some false, .no⟩, ⟨some false, .no⟩, ⟨some false, .no⟩, ⟨some false, .no⟩, ⟨some false, .no⟩, ⟨some false, .no⟩, ⟨some false, .no⟩, ⟨some false, .no⟩, ⟨some false, .no⟩, ⟨none, .tv false⟩, oH, ⟨some false, .no⟩, ⟨some false, .no⟩, ⟨some false, .no⟩, ⟨some false, .no⟩, ⟨some false, .no⟩, ⟨some false, .no⟩, ⟨none, .tv false⟩, oH, ⟨some false, .no⟩, ⟨some false, .no⟩, ⟨some false, .no⟩, ⟨some false, .no⟩, ⟨some false, .no⟩, ⟨some false, .no⟩, ⟨none, .tv false⟩, oH] [] [] hX (by kernel_rfl) (allCons (f111_ok hc5) (allCons hb6 (allCons hb6 (allCons hb6 (allCons (f111_ok hc8) (allCons hb6 (allCons hb9 (allCons hb9 (allCons hb9 (allCons hb9 (allCons hb9 (allCons hb9 (allCons hb9 (allCons hb9 (allCons hb9 (allCons hb9 (allCons (rfl : false = false) (allCons (rfl : false = false) (allCons (rfl : false = false) (allCons (rfl : false = false) (allCons (rfl : false = false) (allCons (rfl : false = false) (allCons (rfl : false = false) (allCons (rfl : false = false) (allCons (rfl : false = false) (allCons (rfl : false = false) (allCons (rfl : false = false) (allCons (rfl : false = false) (allCons (rfl : false = false) (allCons (rfl : false = false) allNil)))))))))))))))))))))))))))))) (fun _ h => (qThen (h.ht (cont false (of_some hT3)))))
    · exact HT.rgK [oH, oH, ⟨none, .call [.imm tI, .imm tI, .imm tI] [⟨false, .bool, y4⟩] []⟩, oH, ⟨some false, .no⟩, ⟨some false, .no⟩, ⟨some false, .no⟩, ⟨none, .tv false⟩, oH, ⟨some false, .no⟩, ⟨some false, .no⟩, ⟨some false, .no⟩, ⟨some false, .no⟩, ⟨some false, .no⟩, ⟨some false, .no⟩, ⟨some false, .no⟩, ⟨some false, .no⟩, ⟨some false, .no⟩, ⟨none, .tv false⟩, oH, ⟨some false, .no⟩, ⟨some false, .no⟩, ⟨some false, .no⟩, ⟨some false, .no⟩, ⟨some false, .no⟩, ⟨some false, .no⟩, ⟨none, .tv false⟩, oH, ⟨some false, .no⟩, ⟨some false, .no⟩, ⟨some false, .no⟩, ⟨some false, .no⟩, ⟨some false, .no⟩, ⟨some false, .no⟩, ⟨none, .tv false⟩, oH] [] [] hX (by kernel_rfl) (allCons (f111_ok hc5) (allCons hb6 (allCons hb6 (allCons hb6 (allCons hb6 (allCons (rfl : false = false) (allCons (rfl : false = false) (allCons (rfl : false = false) (allCons (rfl : false = false) (allCons (rfl : false = false) (allCons (rfl : false = false) (allCons (rfl : false = false) (allCons (rfl : false = false) (allCons (rfl : false = false) (allCons (rfl : false = false) (allCons (rfl : false = false) (allCons (rfl : false = false) (allCons (rfl : false = false) (allCons (rfl : false = false) (allCons (rfl : false = false) (allCons (rfl : false = false) (allCons (rfl : false = false) (allCons (rfl : false = false) (allCons (rfl : false = false) (allCons (rfl : false = false) (allCons (rfl : false = false) (allCons (rfl : false = false) (allCons (rfl : false = false) (allCons (rfl : false = false) allNil))))))))))))))))))))))))))))) (fun _ h => (qThen (h.ht (cont false (of_some hT3)))))

noncomputable def impl_StatesOfLoop (a0 : Int × Int × List Int × List Bool) (a1 : List Int × List Int) : Option (List Int × Bool) :=
  (show Option (Bool) from
    (impl_ValidPlain (a0.1, a0.2.1, a0.2.2.1, a0.2.2.2)).bind fun y9 =>
    bif (!y9) then
      some true
    else
      (impl_ValidLoop (a1.1, a1.2) a0.2.1).bind fun y12 =>
      some (!y12)).bind fun v1 =>
  bif v1 then
    some (([] : List Int), false)
  else
    (impl_statesOfLoop (a0.1, a0.2.1, a0.2.2.1, a0.2.2.2) (a1.1, a1.2)).bind fun y5 =>
    (impl_indicesOf y5).bind fun y7 =>
    some (y7, true)

theorem f42_ok {a0 : Int × Int × List Int × List Bool} {a1 : List Int × List Int} {r : List Int × Bool} (hr : impl_StatesOfLoop a0 a1 = some r) : CallOK Try.prog 42 [.imm (.st (.pair tI (.pair tI (.pair tLI (.sl .bool))))) a0, .imm (.st (.pair tLI tLI)) a1] [⟨true, tLI, r.1⟩, ⟨false, .bool, r.2⟩] [] := by
  unfold impl_StatesOfLoop at hr
  refine CallOK.of_body (ts := [(true, tLI), (false, .bool)]) Try.func42 rfl (by kernel_rfl) (Nat.le_of_ble_eq_true (by kernel_rfl)) fun cx hP hN hO hF => ?_
  have hO : cx.own.map Prod.fst = [] := hO
  have hX := CxIs.mk hP hN hO
  have hF := hF rfl
  show HT cx ⟨[(0, .agg [iC a0.1, iC a0.2.1, nC a0.2.2.1, .dat (.sl .bool) a0.2.2.2]), (1, .agg [nC a1.1, nC a1.2])], [], 0⟩ _ _
  refine HT.rg2 (oHs 4) ⟨[(2, pV 0 0), (3, pV 1 0)], [(1, .box [nC a1.1, nC a1.2]), (0, .box [iC a0.1, iC a0.2.1, nC a0.2.2.1, .dat (.sl .bool) a0.2.2.2])], 2⟩ hX (by kernel_rfl) allNil ?_
  refine HT.seq ?_
  obtain ⟨v1', hT3, hr⟩ := of_bind hr
  refine HT.join (fun (v1 : Bool) => ⟨[(2, pV 0 0), (3, pV 1 0), (15, bV v1)], [(0, .box [iC a0.1, iC a0.2.1, nC a0.2.2.1, .dat (.sl .bool) a0.2.2.2]), (1, .box [nC a1.1, nC a1.2])], 2⟩) (fun v => v = v1') (fun v1 hv2 => ?_) (fun cont => ?_)
  · subst hv2
    rcases of_bif hr with ⟨hb4, hr⟩ | ⟨hb4, hr⟩
    · refine HT.cond1 rfl hb4 ?_
      refine HT.rg2 (oHs 2) ⟨[(4, .one (.nilS)), (5, bV false)], [], 2⟩ hX (by kernel_rfl) allNil ?_
      have hr := of_some hr
      subst hr
      exact HT.ret (qThenR ⟨[.one (.nilS), bV false], [], [], by kernel_rfl, by kernel_rfl, rfl, by kernel_rfl, by kernel_rfl, trivial⟩)
    · refine HT.cond0 rfl hb4 ?_
      refine HT.skip (qThen ?_)
      obtain ⟨y5, hc6, hr⟩ := of_bind hr
      obtain ⟨y7, hc8, hr⟩ := of_bind hr
      refine HT.rg2 [oH, oH, ⟨none, .call [.imm (.st (.pair tI (.pair tI (.pair tLI (.sl .bool))))), .imm (.st (.pair tLI tLI))] [⟨true, (.sl .bool), y5⟩] []⟩, ⟨none, .call [.imm (.sl .bool)] [⟨true, tLI, y7⟩] []⟩, oH, oH] ⟨[(4, aV 3), (5, bV true)], [(3, .seq tI y7)], 4⟩ hX (by kernel_rfl) (allCons (f120_ok hc6) (allCons (f119_ok hc8) allNil)) ?_
      have hr := of_some hr
      subst hr
      exact HT.ret ⟨[aV 3, bV true], [3], [], by kernel_rfl, by kernel_rfl, rfl, by kernel_rfl, by kernel_rfl, trivial⟩
  · obtain ⟨y9, hc10, hT3⟩ := of_bind hT3
    rcases of_bif hT3 with ⟨hb11, hT3⟩ | ⟨hb11, hT3⟩
    · exact HT.rgK [oH, ⟨none, .call [.imm (.st (.pair tI (.pair tI (.pair tLI (.sl .bool)))))] [⟨false, .bool, y9⟩] []⟩, oH, oH, ⟨some true, .no⟩, ⟨some true, .no⟩, ⟨some true, .no⟩, ⟨some true, .no⟩, ⟨some true, .no⟩, ⟨none, .tv true⟩] [(0, 0), (1, 1)] [] hX (by kernel_rfl) (allCons (f100_ok hc10) (allCons hb11 (allCons hb11 (allCons hb11 (allCons hb11 (allCons hb11 (allCons hb11 allNil))))))) (fun _ h => (qThen (h.ht (cont true (of_some hT3)))))
    · obtain ⟨y12, hc13, hT3⟩ := of_bind hT3
      exact HT.rgK [oH, ⟨none, .call [.imm (.st (.pair tI (.pair tI (.pair tLI (.sl .bool)))))] [⟨false, .bool, y9⟩] []⟩, oH, oH, ⟨some false, .no⟩, ⟨some false, .no⟩, ⟨some false, .no⟩, ⟨some false, .call [.imm (.st (.pair tLI tLI)), .imm tI] [⟨false, .bool, y12⟩] []⟩, ⟨some false, .no⟩, ⟨none, .tv false⟩] [(0, 0), (1, 1)] [] hX (by kernel_rfl) (allCons (f100_ok hc10) (allCons hb11 (allCons hb11 (allCons hb11 (allCons hb11 (allCons (f37_ok hc13) (allCons hb11 (allCons hb11 allNil)))))))) (fun _ h => (qThen (h.ht (cont (!y12) (of_some hT3)))))

noncomputable def impl_readsLoop_B1 (a0 : Int × Int × List Int × List Bool) (y1 : List Bool) (s3 : Int) : Option ((Int) ⊕ (Unit ⊕ Unit)) :=
  bif (decide (s3 < (lenI y1))) then
    guardP ((0 : Int) ≤ s3 ∧ s3 < lenI y1) (
      (show Option (Bool) from
        bif (List.getD y1 (Int.toNat s3) false) then
          guardP ((0 : Int) ≤ s3 ∧ s3 < lenI a0.2.2.2) (
            some (List.getD a0.2.2.2 (Int.toNat s3) false))
        else
          some false).bind fun v12 =>
      bif v12 then
        some (.inr (.inr ()))
      else
        some (.inl (wadd .i64 s3 (1 : Int))))
  else
    some (.inr (.inl ()))

noncomputable def impl_readsLoop (a0 : Int × Int × List Int × List Bool) (a1 : List Int × List Int) : Option (Bool) :=
  (impl_statesOfLoop (a0.1, a0.2.1, a0.2.2.1, a0.2.2.2) (a1.1, a1.2)).bind fun y1 =>
  (rounds (impl_readsLoop_B1 a0 y1) (0 : Int)).bind fun r4 => match r4 with
    | .inl r5 =>
      some false
    | .inr r6 =>
      some true

theorem f121_ok {a0 : Int × Int × List Int × List Bool} {a1 : List Int × List Int} {r : Bool} (hr : impl_readsLoop a0 a1 = some r) : CallOK Try.prog 121 [.imm (.st (.pair tI (.pair tI (.pair tLI (.sl .bool))))) a0, .imm (.st (.pair tLI tLI)) a1] [⟨false, .bool, r⟩] [] := by
  unfold impl_readsLoop at hr
  refine CallOK.of_body (ts := [(false, .bool)]) Try.func121 rfl (by kernel_rfl) (Nat.le_of_ble_eq_true (by kernel_rfl)) fun cx hP hN hO hF => ?_
  have hO : cx.own.map Prod.fst = [] := hO
  have hX := CxIs.mk hP hN hO
  have hF := hF rfl
  show HT cx ⟨[(0, .agg [iC a0.1, iC a0.2.1, nC a0.2.2.1, .dat (.sl .bool) a0.2.2.2]), (1, .agg [nC a1.1, nC a1.2])], [], 0⟩ _ _
  refine HT.rg2 (oHs 3) ⟨[(2, pV 0 0), (3, pV 1 0)], [(1, .box [nC a1.1, nC a1.2]), (0, .box [iC a0.1, iC a0.2.1, nC a0.2.2.1, .dat (.sl .bool) a0.2.2.2])], 2⟩ hX (by kernel_rfl) allNil ?_
  refine HT.seq ?_
  obtain ⟨y1, hc2, hr⟩ := of_bind hr
  refine HT.rg2 [oH, oH, ⟨none, .call [.imm (.st (.pair tI (.pair tI (.pair tLI (.sl .bool))))), .imm (.st (.pair tLI tLI))] [⟨true, (.sl .bool), y1⟩] []⟩, oH, oH] ⟨[(2, pV 0 0), (9, aV 2), (10, iV (lenI y1)), (11, iV (0 : Int))], [(2, .seq .bool y1), (0, .box [iC a0.1, iC a0.2.1, nC a0.2.2.1, .dat (.sl .bool) a0.2.2.2])], 3⟩ hX (by kernel_rfl) (allCons (f120_ok hc2) allNil) ?_
  refine HT.block ?_
  obtain ⟨r4, hL18, hr⟩ := of_bind hr
  refine HT.loopL (fun (s3 : Int) => ⟨[(2, pV 0 0), (9, aV 1), (10, iV (lenI y1)), (11, iV s3)], [(0, .box [iC a0.1, iC a0.2.1, nC a0.2.2.1, .dat (.sl .bool) a0.2.2.2]), (1, .seq .bool y1)], 2⟩) (fun (r4 : Unit ⊕ Unit) => match r4 with | .inl r5 => (.exit 0, ⟨[], [], 0⟩) | .inr r6 => (.ret, ⟨[(4, bV true)], [], 0⟩)) (Le.re [(0, 0), (2, 1)] [] hX (by kernel_rfl)) hL18 ?_ (fun s3 x7 hx8 hk9 => ?_)
  · rcases r4 with r5 | r6
    · refine (qBlockX (qThen ?_))
      refine HT.rg2 [oH] ⟨[(4, bV false)], [], 0⟩ hX (by kernel_rfl) allNil ?_
      have hr := of_some hr
      subst hr
      exact HT.ret ⟨[bV false], [], [], by kernel_rfl, by kernel_rfl, rfl, by kernel_rfl, by kernel_rfl, trivial⟩
    · have hr := of_some hr
      subst hr
      exact (qBlockR (qThenR ⟨[bV true], [], [], by kernel_rfl, by kernel_rfl, rfl, by kernel_rfl, by kernel_rfl, trivial⟩))
  · refine HT.rg2 [oH] ⟨[(2, pV 0 0), (9, aV 1), (10, iV (lenI y1)), (11, iV s3), (12, bV (decide (s3 < (lenI y1))))], [(0, .box [iC a0.1, iC a0.2.1, nC a0.2.2.1, .dat (.sl .bool) a0.2.2.2]), (1, .seq .bool y1)], 2⟩ hX (by kernel_rfl) allNil ?_
    refine HT.seq ?_
    rcases of_bif hx8 with ⟨hb10, hx8⟩ | ⟨hb10, hx8⟩
    · refine HT.cond1 rfl hb10 ?_
      refine HT.skip (qThen ?_)
      refine HT.seq ?_
      refine HT.block ?_
      obtain ⟨hg11, hx8⟩ := of_guard hx8
      refine HT.rg2 (oHs 5) ⟨[(2, pV 0 0), (5, iV s3), (6, bV (List.getD y1 (Int.toNat s3) false)), (9, aV 1), (10, iV (lenI y1)), (11, iV s3)], [(0, .box [iC a0.1, iC a0.2.1, nC a0.2.2.1, .dat (.sl .bool) a0.2.2.2]), (1, .seq .bool y1)], 2⟩ hX (by kernel_rfl) (allCons hg11 (allCons (natLt hg11) allNil)) ?_
      obtain ⟨v12', hT14, hx8⟩ := of_bind hx8
      refine HT.join (fun (v12 : Bool) => ⟨[(2, pV 0 0), (9, aV 1), (10, iV (lenI y1)), (11, iV s3), (23, bV v12)], [(0, .box [iC a0.1, iC a0.2.1, nC a0.2.2.1, .dat (.sl .bool) a0.2.2.2]), (1, .seq .bool y1)], 2⟩) (fun v => v = v12') (fun v12 hv13 => ?_) (fun cont => ?_)
      · subst hv13
        rcases of_bif hx8 with ⟨hb15, hx8⟩ | ⟨hb15, hx8⟩
        · refine HT.cond1 rfl hb15 ?_
          refine HT.rg2 [oH] ⟨[(4, bV true)], [], 2⟩ hX (by kernel_rfl) allNil ?_
          have hx8 := of_some hx8
          subst hx8
          exact HT.retL (Le.re [] [] hX (by kernel_rfl)) (qBlockR (qThenR (qLoopR (hk9 (.inr ()) rfl))))
        · refine HT.cond0 rfl hb15 ?_
          refine HT.skip (qBlock (qThen ?_))
          have hx8 := of_some hx8
          subst hx8
          exact HT.rgK (oHs 2) [(0, 0), (1, 1)] [] hX (by kernel_rfl) allNil (fun _ h => (qLoopN ⟨(wadd .i64 s3 (1 : Int)), rfl, h⟩))
      · rcases of_bif hT14 with ⟨hb16, hT14⟩ | ⟨hb16, hT14⟩
        · obtain ⟨hg17, hT14⟩ := of_guard hT14
          exact HT.rgK [oH, oH, ⟨some true, .no⟩, ⟨some true, .no⟩, ⟨some true, .no⟩, ⟨some true, .no⟩, ⟨some true, .no⟩, ⟨none, .tv true⟩] [(0, 0), (1, 1)] [] hX (by kernel_rfl) (allCons hb16 (allCons hb16 (allCons hb16 (allCons hb16 (allCons hg17 (allCons hb16 (allCons hb16 allNil))))))) (fun _ h => (qThen (h.ht (cont (List.getD a0.2.2.2 (Int.toNat s3) false) (of_some hT14)))))
        · exact HT.rgK [oH, oH, ⟨some false, .no⟩, ⟨some false, .no⟩, ⟨some false, .no⟩, ⟨some false, .no⟩, ⟨some false, .no⟩, ⟨none, .tv false⟩] [(0, 0), (1, 1)] [] hX (by kernel_rfl) (allCons hb16 (allCons hb16 (allCons hb16 (allCons hb16 (allCons hb16 (allCons hb16 allNil)))))) (fun _ h => (qThen (h.ht (cont false (of_some hT14)))))
    · refine HT.cond0 rfl hb10 ?_
      have hx8 := of_some hx8
      subst hx8
      exact HT.exitL (Le.re [] [] hX (by kernel_rfl)) (qThenE (qLoopE (hk9 (.inl ()) rfl)))

noncomputable def impl_ReadsLoop (a0 : Int × Int × List Int × List Bool) (a1 : List Int × List Int) : Option (Bool × Bool) :=
  (show Option (Bool) from
    (impl_ValidPlain (a0.1, a0.2.1, a0.2.2.1, a0.2.2.2)).bind fun y7 =>
    bif (!y7) then
      some true
    else
      (impl_ValidLoop (a1.1, a1.2) a0.2.1).bind fun y10 =>
      some (!y10)).bind fun v1 =>
  bif v1 then
    some (false, false)
  else
    (impl_readsLoop (a0.1, a0.2.1, a0.2.2.1, a0.2.2.2) (a1.1, a1.2)).bind fun y5 =>
    some (y5, true)

theorem f43_ok {a0 : Int × Int × List Int × List Bool} {a1 : List Int × List Int} {r : Bool × Bool} (hr : impl_ReadsLoop a0 a1 = some r) : CallOK Try.prog 43 [.imm (.st (.pair tI (.pair tI (.pair tLI (.sl .bool))))) a0, .imm (.st (.pair tLI tLI)) a1] [⟨false, .bool, r.1⟩, ⟨false, .bool, r.2⟩] [] := by
  unfold impl_ReadsLoop at hr
  refine CallOK.of_body (ts := [(false, .bool), (false, .bool)]) Try.func43 rfl (by kernel_rfl) (Nat.le_of_ble_eq_true (by kernel_rfl)) fun cx hP hN hO hF => ?_
  have hO : cx.own.map Prod.fst = [] := hO
  have hX := CxIs.mk hP hN hO
  have hF := hF rfl
  show HT cx ⟨[(0, .agg [iC a0.1, iC a0.2.1, nC a0.2.2.1, .dat (.sl .bool) a0.2.2.2]), (1, .agg [nC a1.1, nC a1.2])], [], 0⟩ _ _
  refine HT.rg2 (oHs 4) ⟨[(2, pV 0 0), (3, pV 1 0)], [(1, .box [nC a1.1, nC a1.2]), (0, .box [iC a0.1, iC a0.2.1, nC a0.2.2.1, .dat (.sl .bool) a0.2.2.2])], 2⟩ hX (by kernel_rfl) allNil ?_
  refine HT.seq ?_
  obtain ⟨v1', hT3, hr⟩ := of_bind hr
  refine HT.join (fun (v1 : Bool) => ⟨[(2, pV 0 0), (3, pV 1 0), (15, bV v1)], [(0, .box [iC a0.1, iC a0.2.1, nC a0.2.2.1, .dat (.sl .bool) a0.2.2.2]), (1, .box [nC a1.1, nC a1.2])], 2⟩) (fun v => v = v1') (fun v1 hv2 => ?_) (fun cont => ?_)
  · subst hv2
    rcases of_bif hr with ⟨hb4, hr⟩ | ⟨hb4, hr⟩
    · refine HT.cond1 rfl hb4 ?_
      refine HT.rg2 (oHs 2) ⟨[(4, bV false), (5, bV false)], [], 2⟩ hX (by kernel_rfl) allNil ?_
      have hr := of_some hr
      subst hr
      exact HT.ret (qThenR ⟨[bV false, bV false], [], [], by kernel_rfl, by kernel_rfl, rfl, by kernel_rfl, by kernel_rfl, trivial⟩)
    · refine HT.cond0 rfl hb4 ?_
      refine HT.skip (qThen ?_)
      obtain ⟨y5, hc6, hr⟩ := of_bind hr
      refine HT.rg2 [oH, oH, ⟨none, .call [.imm (.st (.pair tI (.pair tI (.pair tLI (.sl .bool))))), .imm (.st (.pair tLI tLI))] [⟨false, .bool, y5⟩] []⟩, oH, oH] ⟨[(4, bV y5), (5, bV true)], [], 2⟩ hX (by kernel_rfl) (allCons (f121_ok hc6) allNil) ?_
      have hr := of_some hr
      subst hr
      exact HT.ret ⟨[bV y5, bV true], [], [], by kernel_rfl, by kernel_rfl, rfl, by kernel_rfl, by kernel_rfl, trivial⟩
  · obtain ⟨y7, hc8, hT3⟩ := of_bind hT3
    rcases of_bif hT3 with ⟨hb9, hT3⟩ | ⟨hb9, hT3⟩
    · exact HT.rgK [oH, ⟨none, .call [.imm (.st (.pair tI (.pair tI (.pair tLI (.sl .bool)))))] [⟨false, .bool, y7⟩] []⟩, oH, oH, ⟨some true, .no⟩, ⟨some true, .no⟩, ⟨some true, .no⟩, ⟨some true, .no⟩, ⟨some true, .no⟩, ⟨none, .tv true⟩] [(0, 0), (1, 1)] [] hX (by kernel_rfl) (allCons (f100_ok hc8) (allCons hb9 (allCons hb9 (allCons hb9 (allCons hb9 (allCons hb9 (allCons hb9 allNil))))))) (fun _ h => (qThen (h.ht (cont true (of_some hT3)))))
    · obtain ⟨y10, hc11, hT3⟩ := of_bind hT3
      exact HT.rgK [oH, ⟨none, .call [.imm (.st (.pair tI (.pair tI (.pair tLI (.sl .bool)))))] [⟨false, .bool, y7⟩] []⟩, oH, oH, ⟨some false, .no⟩, ⟨some false, .no⟩, ⟨some false, .no⟩, ⟨some false, .call [.imm (.st (.pair tLI tLI)), .imm tI] [⟨false, .bool, y10⟩] []⟩, ⟨some false, .no⟩, ⟨none, .tv false⟩] [(0, 0), (1, 1)] [] hX (by kernel_rfl) (allCons (f100_ok hc8) (allCons hb9 (allCons hb9 (allCons hb9 (allCons hb9 (allCons (f37_ok hc11) (allCons hb9 (allCons hb9 allNil)))))))) (fun _ h => (qThen (h.ht (cont (!y10) (of_some hT3)))))

noncomputable def impl_wordsOf_B1 (a0 : Int) (s1 : Int × List (List Int)) (s8 : Int × List (List Int)) (s16 : Int × List (List Int)) : Option ((Int × List (List Int)) ⊕ (List (List Int))) :=
  bif (decide (s16.1 < a0)) then
    (slices_Clone (List.getD s1.2 (Int.toNat s8.1) ([] : List Int))).bind fun y23 =>
    guardP (List.length y23 + List.length ([s16.1] : List Int) ≤ appMax) (
      guardP (List.length s16.2 + List.length ([(y23 ++ ([s16.1] : List Int))] : List (List Int)) ≤ appMax) (
        some (.inl ((wadd .i64 s16.1 (1 : Int)), (s16.2 ++ ([(y23 ++ ([s16.1] : List Int))] : List (List Int)))))))
  else
    some (.inr s16.2)

noncomputable def impl_wordsOf_B2 (a0 : Int) (s1 : Int × List (List Int)) (s8 : Int × List (List Int)) : Option ((Int × List (List Int)) ⊕ (List (List Int))) :=
  bif (decide (s8.1 < (lenI s1.2))) then
    guardP ((0 : Int) ≤ s8.1 ∧ s8.1 < lenI s1.2) (
      (rounds (impl_wordsOf_B1 a0 s1 s8) ((0 : Int), s8.2)).bind fun r18 =>
      some (.inl ((wadd .i64 s8.1 (1 : Int)), r18)))
  else
    some (.inr s8.2)

noncomputable def impl_wordsOf_B3 (a0 : Int) (a1 : Int) (s1 : Int × List (List Int)) : Option ((Int × List (List Int)) ⊕ (List (List Int))) :=
  bif (decide (s1.1 < a1)) then
    (rounds (impl_wordsOf_B2 a0 s1) ((0 : Int), ([] : List (List Int)))).bind fun r10 =>
    some (.inl ((wadd .i64 s1.1 (1 : Int)), r10))
  else
    some (.inr s1.2)

noncomputable def impl_wordsOf (a0 : Int) (a1 : Int) : Option (List (List Int)) :=
  (rounds (impl_wordsOf_B3 a0 a1) ((0 : Int), ([([] : List Int)] : List (List Int)))).bind fun r3 =>
  some r3

theorem f122_ok {a0 : Int} {a1 : Int} {r : List (List Int)} (hr : impl_wordsOf a0 a1 = some r) : CallOK Try.prog 122 [.imm tI a0, .imm tI a1] [⟨false, (.sl tLI), r⟩] [] := by
  unfold impl_wordsOf at hr
  refine CallOK.of_body (ts := [(false, (.sl tLI))]) Try.func122 rfl (by kernel_rfl) (Nat.le_of_ble_eq_true (by kernel_rfl)) fun cx hP hN hO hF => ?_
  have hO : cx.own.map Prod.fst = [] := hO
  have hX := CxIs.mk hP hN hO
  have hF := hF rfl
  show HT cx ⟨[(0, iV a0), (1, iV a1)], [], 0⟩ _ _
  refine HT.rg2 [oH] ⟨[(0, iV a0), (1, iV a1)], [], 0⟩ hX (by kernel_rfl) allNil ?_
  refine HT.rg2 [oH, ⟨none, .ty tLI⟩, oH] ⟨[(0, iV a0), (1, iV a1), (5, aV 0)], [(0, .seq tLI ([([] : List Int)] : List (List Int)))], 1⟩ hX (by kernel_rfl) allNil ?_
  refine HT.seq ?_
  refine HT.rg2 (oHs 2) ⟨[(0, iV a0), (5, aV 0), (12, iV a1), (13, iV (0 : Int))], [(0, .seq tLI ([([] : List Int)] : List (List Int)))], 1⟩ hX (by kernel_rfl) allNil ?_
  refine HT.block ?_
  obtain ⟨r2, hL29, hr⟩ := of_bind hr
  refine HT.loopL (fun (s1 : Int × List (List Int)) => ⟨[(0, iV a0), (5, aV 0), (12, iV a1), (13, iV s1.1)], [(0, .seq tLI s1.2)], 1⟩) (fun (r3 : List (List Int)) => (.exit 0, ⟨[(5, aV 0)], [(0, .seq tLI r3)], 1⟩)) (Le.re [(0, 0)] [] hX (by kernel_rfl)) hL29 ?_ (fun s1 x4 hx5 hk6 => ?_)
  · refine (qBlockX (qThen ?_))
    refine HT.rg2 (oHs 2) ⟨[(4, aV 0)], [(0, .seq tLI r2)], 1⟩ hX (by kernel_rfl) allNil ?_
    have hr := of_some hr
    subst hr
    refine (Le.rz [] [] (st' := ⟨[(4, .one (.dat (.sl tLI) r2))], [], 1⟩) hX hF (by kernel_rfl)).ht ?_
    exact HT.ret ⟨[.one (.dat (.sl tLI) r2)], [], [], by kernel_rfl, by kernel_rfl, rfl, by kernel_rfl, by kernel_rfl, trivial⟩
  · refine HT.rg2 [oH] ⟨[(0, iV a0), (5, aV 0), (12, iV a1), (13, iV s1.1), (14, bV (decide (s1.1 < a1)))], [(0, .seq tLI s1.2)], 1⟩ hX (by kernel_rfl) allNil ?_
    refine HT.seq ?_
    rcases of_bif hx5 with ⟨hb7, hx5⟩ | ⟨hb7, hx5⟩
    · refine HT.cond1 rfl hb7 ?_
      refine HT.skip (qThen ?_)
      refine HT.seq ?_
      refine HT.block ?_
      refine HT.rg2 (oHs 2) ⟨[(0, iV a0), (5, aV 0), (6, .one (.nilS)), (12, iV a1), (13, iV s1.1)], [(0, .seq tLI s1.2)], 1⟩ hX (by kernel_rfl) allNil ?_
      refine HT.seq ?_
      refine HT.rg2 (oHs 3) ⟨[(0, iV a0), (6, .one (.nilS)), (12, iV a1), (13, iV s1.1), (16, aV 0), (17, iV (lenI s1.2)), (18, iV (0 : Int))], [(0, .seq tLI s1.2)], 1⟩ hX (by kernel_rfl) allNil ?_
      refine HT.block ?_
      obtain ⟨r9, hL28, hx5⟩ := of_bind hx5
      refine HT.loopL (fun (s8 : Int × List (List Int)) => ⟨[(0, iV a0), (6, aV 0), (12, iV a1), (13, iV s1.1), (16, aV 1), (17, iV (lenI s1.2)), (18, iV s8.1)], [(0, .seq tLI s8.2), (1, .seq tLI s1.2)], 2⟩) (fun (r10 : List (List Int)) => (.exit 2, ⟨[(0, iV a0), (6, aV 0), (12, iV a1), (13, iV s1.1)], [(0, .seq tLI r10)], 1⟩)) (Le.re [(0, 1)] [0] hX (by kernel_rfl)) hL28 ?_ (fun s8 x11 hx12 hk13 => ?_)
      · refine (qBlockX (qThen ?_))
        refine HT.rgL (oHs 2) ⟨[(0, iV a0), (5, aV 0), (12, iV a1), (13, iV s1.1)], [(0, .seq tLI r9)], 1⟩ hX (by kernel_rfl) allNil (qBlock (qThen ?_))
        have hx5 := of_some hx5
        subst hx5
        exact HT.rgK (oHs 2) [(0, 0)] [] hX (by kernel_rfl) allNil (fun _ h => (qLoopN ⟨((wadd .i64 s1.1 (1 : Int)), r9), rfl, h⟩))
      · refine HT.rg2 [oH] ⟨[(0, iV a0), (6, aV 0), (12, iV a1), (13, iV s1.1), (16, aV 1), (17, iV (lenI s1.2)), (18, iV s8.1), (19, bV (decide (s8.1 < (lenI s1.2))))], [(0, .seq tLI s8.2), (1, .seq tLI s1.2)], 2⟩ hX (by kernel_rfl) allNil ?_
        refine HT.seq ?_
        rcases of_bif hx12 with ⟨hb14, hx12⟩ | ⟨hb14, hx12⟩
        · refine HT.cond1 rfl hb14 ?_
          refine HT.skip (qThen ?_)
          refine HT.seq ?_
          refine HT.block ?_
          obtain ⟨hg15, hx12⟩ := of_guard hx12
          refine HT.rg2 (oHs 3) ⟨[(0, iV a0), (6, aV 0), (8, nV (List.getD s1.2 (Int.toNat s8.1) ([] : List Int))), (12, iV a1), (13, iV s1.1), (16, aV 1), (17, iV (lenI s1.2)), (18, iV s8.1)], [(0, .seq tLI s8.2), (1, .seq tLI s1.2)], 2⟩ hX (by kernel_rfl) (allCons hg15 (allCons (natLt hg15) allNil)) ?_
          refine HT.rg2 (oHs 2) ⟨[(0, iV a0), (6, aV 0), (8, nV (List.getD s1.2 (Int.toNat s8.1) ([] : List Int))), (12, iV a1), (13, iV s1.1), (16, aV 1), (17, iV (lenI s1.2)), (18, iV s8.1), (22, iV a0), (23, iV (0 : Int))], [(0, .seq tLI s8.2), (1, .seq tLI s1.2)], 2⟩ hX (by kernel_rfl) allNil ?_
          refine HT.block ?_
          obtain ⟨r17, hL27, hx12⟩ := of_bind hx12
          refine HT.loopL (fun (s16 : Int × List (List Int)) => ⟨[(0, iV a0), (6, aV 0), (8, nV (List.getD s1.2 (Int.toNat s8.1) ([] : List Int))), (12, iV a1), (13, iV s1.1), (16, aV 1), (17, iV (lenI s1.2)), (18, iV s8.1), (22, iV a0), (23, iV s16.1)], [(0, .seq tLI s16.2), (1, .seq tLI s1.2)], 2⟩) (fun (r18 : List (List Int)) => (.exit 4, ⟨[(0, iV a0), (6, aV 0), (12, iV a1), (13, iV s1.1), (16, aV 1), (17, iV (lenI s1.2)), (18, iV s8.1)], [(0, .seq tLI r18), (1, .seq tLI s1.2)], 2⟩)) (Le.re [(0, 0), (1, 1)] [] hX (by kernel_rfl)) hL27 ?_ (fun s16 x19 hx20 hk21 => ?_)
          · refine (qBlockX (qBlock (qThen ?_)))
            have hx12 := of_some hx12
            subst hx12
            exact HT.rgK (oHs 2) [(0, 0), (1, 1)] [] hX (by kernel_rfl) allNil (fun _ h => (qLoopN ⟨((wadd .i64 s8.1 (1 : Int)), r17), rfl, h⟩))
          · refine HT.rg2 [oH] ⟨[(0, iV a0), (6, aV 0), (8, nV (List.getD s1.2 (Int.toNat s8.1) ([] : List Int))), (12, iV a1), (13, iV s1.1), (16, aV 1), (17, iV (lenI s1.2)), (18, iV s8.1), (22, iV a0), (23, iV s16.1), (24, bV (decide (s16.1 < a0)))], [(0, .seq tLI s16.2), (1, .seq tLI s1.2)], 2⟩ hX (by kernel_rfl) allNil ?_
            refine HT.seq ?_
            rcases of_bif hx20 with ⟨hb22, hx20⟩ | ⟨hb22, hx20⟩
            · refine HT.cond1 rfl hb22 ?_
              refine HT.skip (qThen ?_)
              refine HT.seq ?_
              refine HT.block ?_
              refine HT.rg2 (oHs 2) ⟨[(0, iV a0), (6, aV 0), (8, nV (List.getD s1.2 (Int.toNat s8.1) ([] : List Int))), (9, iV s16.1), (12, iV a1), (13, iV s1.1), (16, aV 1), (17, iV (lenI s1.2)), (18, iV s8.1), (22, iV a0), (23, iV s16.1)], [(0, .seq tLI s16.2), (1, .seq tLI s1.2)], 2⟩ hX (by kernel_rfl) allNil ?_
              obtain ⟨y23, hc24, hx20⟩ := of_bind hx20
              obtain ⟨hg25, hx20⟩ := of_guard hx20
              obtain ⟨hg26, hx20⟩ := of_guard hx20
              refine HT.cut1 6 [oH, oH, ⟨none, .call [.imm tLI] [⟨true, tLI, y23⟩] []⟩, oH, ⟨none, .ty tI⟩, ⟨none, .ty tI⟩] ⟨[(31, aV 4), (30, aV 3), (29, iV s16.1), (28, aV 2), (27, nV (List.getD s1.2 (Int.toNat s8.1) ([] : List Int))), (26, aV 0), (0, iV a0), (6, aV 0), (8, nV (List.getD s1.2 (Int.toNat s8.1) ([] : List Int))), (9, iV s16.1), (12, iV a1), (13, iV s1.1), (16, aV 1), (17, iV (lenI s1.2)), (18, iV s8.1), (22, iV a0), (23, iV s16.1)], [(2, .gone), (4, .seq tI (y23 ++ ([s16.1] : List Int))), (3, .seq tI ([s16.1] : List Int)), (2, .seq tI y23), (0, .seq tLI s16.2), (1, .seq tLI s1.2)], 5⟩ [⟨none, .ty tLI⟩, ⟨none, .ty tLI⟩, oH] ⟨[(6, aV 6), (33, aV 6), (32, aV 5), (31, nV (y23 ++ ([s16.1] : List Int))), (30, aV 3), (29, iV s16.1), (27, nV (List.getD s1.2 (Int.toNat s8.1) ([] : List Int))), (26, aV 0), (0, iV a0), (6, aV 0), (8, nV (List.getD s1.2 (Int.toNat s8.1) ([] : List Int))), (9, iV s16.1), (12, iV a1), (13, iV s1.1), (16, aV 1), (17, iV (lenI s1.2)), (18, iV s8.1), (22, iV a0), (23, iV s16.1)], [(0, .gone), (6, .seq tLI (s16.2 ++ ([(y23 ++ ([s16.1] : List Int))] : List (List Int)))), (5, .seq tLI ([(y23 ++ ([s16.1] : List Int))] : List (List Int))), (3, .seq tI ([s16.1] : List Int)), (0, .seq tLI s16.2), (1, .seq tLI s1.2)], 7⟩ hP hN (by kernel_rfl) (allCons (f105_ok hc24) (allCons hg25 allNil)) (Le.rz [(3, 3), (0, 0), (1, 1)] [] (st' := ⟨[(31, nV (y23 ++ ([s16.1] : List Int))), (30, aV 3), (29, iV s16.1), (27, nV (List.getD s1.2 (Int.toNat s8.1) ([] : List Int))), (26, aV 0), (0, iV a0), (6, aV 0), (8, nV (List.getD s1.2 (Int.toNat s8.1) ([] : List Int))), (9, iV s16.1), (12, iV a1), (13, iV s1.1), (16, aV 1), (17, iV (lenI s1.2)), (18, iV s8.1), (22, iV a0), (23, iV s16.1)], [(3, .seq tI ([s16.1] : List Int)), (0, .seq tLI s16.2), (1, .seq tLI s1.2)], 5⟩) hX hF (by kernel_rfl)) (by kernel_rfl) (allCons hg26 allNil) (qBlock (qThen ?_))
              have hx20 := of_some hx20
              subst hx20
              exact HT.rgK (oHs 2) [(6, 0), (1, 1)] [] hX (by kernel_rfl) allNil (fun _ h => (qLoopN ⟨((wadd .i64 s16.1 (1 : Int)), (s16.2 ++ ([(y23 ++ ([s16.1] : List Int))] : List (List Int)))), rfl, h⟩))
            · refine HT.cond0 rfl hb22 ?_
              have hx20 := of_some hx20
              subst hx20
              exact HT.exitL (Le.re [(0, 0), (1, 1)] [] hX (by kernel_rfl)) (qThenE (qLoopE (hk21 s16.2 rfl)))
        · refine HT.cond0 rfl hb14 ?_
          have hx12 := of_some hx12
          subst hx12
          exact HT.exitL (Le.re [(0, 0)] [] hX (by kernel_rfl)) (qThenE (qLoopE (hk13 s8.2 rfl)))
    · refine HT.cond0 rfl hb7 ?_
      have hx5 := of_some hx5
      subst hx5
      exact HT.exitL (Le.re [(0, 0)] [] hX (by kernel_rfl)) (qThenE (qLoopE (hk6 s1.2 rfl)))

noncomputable def impl_FirstLoop_B1 (a0 : Int × Int × List Int × List Bool) (s5 : Int) (y21 : List (List Int)) (s23 : Int) : Option ((Int) ⊕ (Unit ⊕ (List Int × List Int))) :=
  bif (decide (s23 < (lenI y21))) then
    guardP ((0 : Int) ≤ s23 ∧ s23 < lenI y21) (
      guardP ((0 : Int) ≤ s5 ∧ s5 ≤ lenI (List.getD y21 (Int.toNat s23) ([] : List Int))) (
        (slices_Clone (cut (List.getD y21 (Int.toNat s23) ([] : List Int)) (0 : Int) s5)).bind fun y33 =>
        (slices_Clone (cut (List.getD y21 (Int.toNat s23) ([] : List Int)) s5 (lenI (List.getD y21 (Int.toNat s23) ([] : List Int))))).bind fun y35 =>
        (impl_readsLoop (a0.1, a0.2.1, a0.2.2.1, a0.2.2.2) (y33, y35)).bind fun y37 =>
        bif y37 then
          some (.inr (.inr (y33, y35)))
        else
          some (.inl (wadd .i64 s23 (1 : Int)))))
  else
    some (.inr (.inl ()))

noncomputable def impl_FirstLoop_B2 (a0 : Int × Int × List Int × List Bool) (a1 : Int) (s5 : Int) (s13 : Int) : Option ((Int) ⊕ (Unit ⊕ (List Int × List Int))) :=
  bif (decide (s13 < a1)) then
    (impl_wordsOf a0.2.1 (wadd .i64 (wadd .i64 s5 s13) (1 : Int))).bind fun y21 =>
    (rounds (impl_FirstLoop_B1 a0 s5 y21) (0 : Int)).bind fun r24 => match r24 with
      | .inl r25 =>
        some (.inl (wadd .i64 s13 (1 : Int)))
      | .inr r26 =>
        some (.inr (.inr (r26.1, r26.2)))
  else
    some (.inr (.inl ()))

noncomputable def impl_FirstLoop_B3 (a0 : Int × Int × List Int × List Bool) (a1 : Int) (s5 : Int) : Option ((Int) ⊕ (Unit ⊕ (List Int × List Int))) :=
  bif (decide (s5 < (wadd .i64 a1 (1 : Int)))) then
    (rounds (impl_FirstLoop_B2 a0 a1 s5) (0 : Int)).bind fun r14 => match r14 with
      | .inl r15 =>
        some (.inl (wadd .i64 s5 (1 : Int)))
      | .inr r16 =>
        some (.inr (.inr (r16.1, r16.2)))
  else
    some (.inr (.inl ()))

noncomputable def impl_FirstLoop (a0 : Int × Int × List Int × List Bool) (a1 : Int) : Option ((List Int × List Int) × Bool) :=
  (show Option (Bool) from
    (impl_ValidPlain (a0.1, a0.2.1, a0.2.2.1, a0.2.2.2)).bind fun y43 =>
    bif (!y43) then
      some true
    else
      (impl_within a1 (1 : Int) (3 : Int)).bind fun y46 =>
      some (!y46)).bind fun v1 =>
  bif v1 then
    some ((([] : List Int), ([] : List Int)), false)
  else
    (rounds (impl_FirstLoop_B3 a0 a1) (0 : Int)).bind fun r6 => match r6 with
      | .inl r7 =>
        some ((([] : List Int), ([] : List Int)), false)
      | .inr r8 =>
        some ((r8.1, r8.2), true)

theorem f44_ok {a0 : Int × Int × List Int × List Bool} {a1 : Int} {r : (List Int × List Int) × Bool} (hr : impl_FirstLoop a0 a1 = some r) : CallOK Try.prog 44 [.imm (.st (.pair tI (.pair tI (.pair tLI (.sl .bool))))) a0, .imm tI a1] [⟨true, (.st (.pair tLI tLI)), r.1⟩, ⟨false, .bool, r.2⟩] [] := by
  unfold impl_FirstLoop at hr
  refine CallOK.of_body (ts := [(true, (.st (.pair tLI tLI))), (false, .bool)]) Try.func44 rfl (by kernel_rfl) (Nat.le_of_ble_eq_true (by kernel_rfl)) fun cx hP hN hO hF => ?_
  have hO : cx.own.map Prod.fst = [] := hO
  have hX := CxIs.mk hP hN hO
  have hF := hF rfl
  show HT cx ⟨[(0, .agg [iC a0.1, iC a0.2.1, nC a0.2.2.1, .dat (.sl .bool) a0.2.2.2]), (1, iV a1)], [], 0⟩ _ _
  refine HT.rg2 (oHs 3) ⟨[(1, iV a1), (2, pV 0 0), (4, pV 1 0)], [(1, .box [.nilS, .nilS]), (0, .box [iC a0.1, iC a0.2.1, nC a0.2.2.1, .dat (.sl .bool) a0.2.2.2])], 2⟩ hX (by kernel_rfl) allNil ?_
  refine HT.seq ?_
  obtain ⟨v1', hT3, hr⟩ := of_bind hr
  refine HT.join (fun (v1 : Bool) => ⟨[(1, iV a1), (2, pV 0 0), (4, pV 1 0), (18, bV v1)], [(0, .box [iC a0.1, iC a0.2.1, nC a0.2.2.1, .dat (.sl .bool) a0.2.2.2]), (1, .box [.nilS, .nilS])], 2⟩) (fun v => v = v1') (fun v1 hv2 => ?_) (fun cont => ?_)
  · subst hv2
    rcases of_bif hr with ⟨hb4, hr⟩ | ⟨hb4, hr⟩
    · refine HT.cond1 rfl hb4 ?_
      refine HT.rg2 (oHs 3) ⟨[(4, pV 1 0), (5, bV false)], [(1, .box [.nilS, .nilS])], 2⟩ hX (by kernel_rfl) allNil ?_
      have hr := of_some hr
      subst hr
      exact HT.ret (qThenR ⟨[.agg [.nilS, .nilS], bV false], [], [], by kernel_rfl, by kernel_rfl, rfl, by kernel_rfl, by kernel_rfl, trivial⟩)
    · refine HT.cond0 rfl hb4 ?_
      refine HT.skip (qThen ?_)
      refine HT.seq ?_
      refine HT.rg2 (oHs 3) ⟨[(1, iV a1), (2, pV 0 0), (4, pV 1 0), (21, iV (wadd .i64 a1 (1 : Int))), (22, iV (0 : Int))], [(0, .box [iC a0.1, iC a0.2.1, nC a0.2.2.1, .dat (.sl .bool) a0.2.2.2]), (1, .box [.nilS, .nilS])], 2⟩ hX (by kernel_rfl) allNil ?_
      refine HT.block ?_
      obtain ⟨r6, hL42, hr⟩ := of_bind hr
      refine HT.loopL (fun (s5 : Int) => ⟨[(1, iV a1), (2, pV 0 0), (4, pV 1 0), (21, iV (wadd .i64 a1 (1 : Int))), (22, iV s5)], [(0, .box [iC a0.1, iC a0.2.1, nC a0.2.2.1, .dat (.sl .bool) a0.2.2.2]), (1, .box [.nilS, .nilS])], 2⟩) (fun (r6 : Unit ⊕ (List Int × List Int)) => match r6 with | .inl r7 => (.exit 0, ⟨[(4, pV 0 0)], [(0, .box [.nilS, .nilS])], 1⟩) | .inr r8 => (.ret, ⟨[(4, pV 0 0), (5, bV true)], [(0, .box [.all 1, .all 2]), (1, .seq tI r8.1), (2, .seq tI r8.2)], 3⟩)) (Le.re [(0, 0), (1, 1)] [] hX (by kernel_rfl)) hL42 ?_ (fun s5 x9 hx10 hk11 => ?_)
      · rcases r6 with r7 | r8
        · refine (qBlockX (qThen ?_))
          refine HT.rg2 (oHs 3) ⟨[(4, pV 0 0), (5, bV false)], [(0, .box [.nilS, .nilS])], 1⟩ hX (by kernel_rfl) allNil ?_
          have hr := of_some hr
          subst hr
          exact HT.ret ⟨[.agg [.nilS, .nilS], bV false], [], [], by kernel_rfl, by kernel_rfl, rfl, by kernel_rfl, by kernel_rfl, trivial⟩
        · have hr := of_some hr
          subst hr
          exact (qBlockR (qThenR ⟨[.agg [.all 1, .all 2], bV true], [1, 2], [], by kernel_rfl, by kernel_rfl, rfl, by kernel_rfl, by kernel_rfl, trivial⟩))
      · refine HT.rg2 [oH] ⟨[(1, iV a1), (2, pV 0 0), (4, pV 1 0), (21, iV (wadd .i64 a1 (1 : Int))), (22, iV s5), (23, bV (decide (s5 < (wadd .i64 a1 (1 : Int)))))], [(0, .box [iC a0.1, iC a0.2.1, nC a0.2.2.1, .dat (.sl .bool) a0.2.2.2]), (1, .box [.nilS, .nilS])], 2⟩ hX (by kernel_rfl) allNil ?_
        refine HT.seq ?_
        rcases of_bif hx10 with ⟨hb12, hx10⟩ | ⟨hb12, hx10⟩
        · refine HT.cond1 rfl hb12 ?_
          refine HT.skip (qThen ?_)
          refine HT.seq ?_
          refine HT.block ?_
          refine HT.rg2 (oHs 2) ⟨[(1, iV a1), (2, pV 0 0), (4, pV 1 0), (6, iV s5), (21, iV (wadd .i64 a1 (1 : Int))), (22, iV s5)], [(0, .box [iC a0.1, iC a0.2.1, nC a0.2.2.1, .dat (.sl .bool) a0.2.2.2]), (1, .box [.nilS, .nilS])], 2⟩ hX (by kernel_rfl) allNil ?_
          refine HT.rg2 (oHs 2) ⟨[(1, iV a1), (2, pV 0 0), (4, pV 1 0), (6, iV s5), (21, iV (wadd .i64 a1 (1 : Int))), (22, iV s5), (25, iV a1), (26, iV (0 : Int))], [(0, .box [iC a0.1, iC a0.2.1, nC a0.2.2.1, .dat (.sl .bool) a0.2.2.2]), (1, .box [.nilS, .nilS])], 2⟩ hX (by kernel_rfl) allNil ?_
          refine HT.block ?_
          obtain ⟨r14, hL41, hx10⟩ := of_bind hx10
          refine HT.loopL (fun (s13 : Int) => ⟨[(1, iV a1), (2, pV 0 0), (4, pV 1 0), (6, iV s5), (21, iV (wadd .i64 a1 (1 : Int))), (22, iV s5), (25, iV a1), (26, iV s13)], [(0, .box [iC a0.1, iC a0.2.1, nC a0.2.2.1, .dat (.sl .bool) a0.2.2.2]), (1, .box [.nilS, .nilS])], 2⟩) (fun (r14 : Unit ⊕ (List Int × List Int)) => match r14 with | .inl r15 => (.exit 2, ⟨[(1, iV a1), (2, pV 0 0), (4, pV 1 0), (21, iV (wadd .i64 a1 (1 : Int))), (22, iV s5)], [(0, .box [iC a0.1, iC a0.2.1, nC a0.2.2.1, .dat (.sl .bool) a0.2.2.2]), (1, .box [.nilS, .nilS])], 2⟩) | .inr r16 => (.ret, ⟨[(4, pV 0 0), (5, bV true)], [(0, .box [.all 1, .all 2]), (1, .seq tI r16.1), (2, .seq tI r16.2)], 3⟩)) (Le.re [(0, 0), (1, 1)] [] hX (by kernel_rfl)) hL41 ?_ (fun s13 x17 hx18 hk19 => ?_)
          · rcases r14 with r15 | r16
            · refine (qBlockX (qBlock (qThen ?_)))
              have hx10 := of_some hx10
              subst hx10
              exact HT.rgK (oHs 2) [(0, 0), (1, 1)] [] hX (by kernel_rfl) allNil (fun _ h => (qLoopN ⟨(wadd .i64 s5 (1 : Int)), rfl, h⟩))
            · have hx10 := of_some hx10
              subst hx10
              exact (qBlockR (qBlockR (qThenR (qLoopR (hk11 (.inr (r16.1, r16.2)) rfl)))))
          · refine HT.rg2 [oH] ⟨[(1, iV a1), (2, pV 0 0), (4, pV 1 0), (6, iV s5), (21, iV (wadd .i64 a1 (1 : Int))), (22, iV s5), (25, iV a1), (26, iV s13), (27, bV (decide (s13 < a1)))], [(0, .box [iC a0.1, iC a0.2.1, nC a0.2.2.1, .dat (.sl .bool) a0.2.2.2]), (1, .box [.nilS, .nilS])], 2⟩ hX (by kernel_rfl) allNil ?_
            refine HT.seq ?_
            rcases of_bif hx18 with ⟨hb20, hx18⟩ | ⟨hb20, hx18⟩
            · refine HT.cond1 rfl hb20 ?_
              refine HT.skip (qThen ?_)
              refine HT.seq ?_
              refine HT.block ?_
              refine HT.rg2 (oHs 2) ⟨[(1, iV a1), (2, pV 0 0), (4, pV 1 0), (6, iV s5), (7, iV s13), (21, iV (wadd .i64 a1 (1 : Int))), (22, iV s5), (25, iV a1), (26, iV s13)], [(0, .box [iC a0.1, iC a0.2.1, nC a0.2.2.1, .dat (.sl .bool) a0.2.2.2]), (1, .box [.nilS, .nilS])], 2⟩ hX (by kernel_rfl) allNil ?_
              obtain ⟨y21, hc22, hx18⟩ := of_bind hx18
              refine HT.rg2 [oH, oH, oH, oH, oH, oH, ⟨none, .call [.imm tI, .imm tI] [⟨false, (.sl tLI), y21⟩] []⟩, oH, oH] ⟨[(1, iV a1), (2, pV 0 0), (4, pV 1 0), (6, iV s5), (21, iV (wadd .i64 a1 (1 : Int))), (22, iV s5), (25, iV a1), (26, iV s13), (35, .one (.dat (.sl tLI) y21)), (36, iV (lenI y21)), (37, iV (0 : Int))], [(0, .box [iC a0.1, iC a0.2.1, nC a0.2.2.1, .dat (.sl .bool) a0.2.2.2]), (1, .box [.nilS, .nilS])], 2⟩ hX (by kernel_rfl) (allCons (f122_ok hc22) allNil) ?_
              refine HT.block ?_
              obtain ⟨r24, hL40, hx18⟩ := of_bind hx18
              refine HT.loopL (fun (s23 : Int) => ⟨[(1, iV a1), (2, pV 0 0), (4, pV 1 0), (6, iV s5), (21, iV (wadd .i64 a1 (1 : Int))), (22, iV s5), (25, iV a1), (26, iV s13), (35, .one (.dat (.sl tLI) y21)), (36, iV (lenI y21)), (37, iV s23)], [(0, .box [iC a0.1, iC a0.2.1, nC a0.2.2.1, .dat (.sl .bool) a0.2.2.2]), (1, .box [.nilS, .nilS])], 2⟩) (fun (r24 : Unit ⊕ (List Int × List Int)) => match r24 with | .inl r25 => (.exit 4, ⟨[(1, iV a1), (2, pV 0 0), (4, pV 1 0), (6, iV s5), (21, iV (wadd .i64 a1 (1 : Int))), (22, iV s5), (25, iV a1), (26, iV s13)], [(0, .box [iC a0.1, iC a0.2.1, nC a0.2.2.1, .dat (.sl .bool) a0.2.2.2]), (1, .box [.nilS, .nilS])], 2⟩) | .inr r26 => (.ret, ⟨[(4, pV 0 0), (5, bV true)], [(0, .box [.all 1, .all 2]), (1, .seq tI r26.1), (2, .seq tI r26.2)], 3⟩)) (Le.re [(0, 0), (1, 1)] [] hX (by kernel_rfl)) hL40 ?_ (fun s23 x27 hx28 hk29 => ?_)
              · rcases r24 with r25 | r26
                · refine (qBlockX (qBlock (qThen ?_)))
                  have hx18 := of_some hx18
                  subst hx18
                  exact HT.rgK (oHs 2) [(0, 0), (1, 1)] [] hX (by kernel_rfl) allNil (fun _ h => (qLoopN ⟨(wadd .i64 s13 (1 : Int)), rfl, h⟩))
                · have hx18 := of_some hx18
                  subst hx18
                  exact (qBlockR (qBlockR (qThenR (qLoopR (hk19 (.inr (r26.1, r26.2)) rfl)))))
              · refine HT.rg2 [oH] ⟨[(1, iV a1), (2, pV 0 0), (4, pV 1 0), (6, iV s5), (21, iV (wadd .i64 a1 (1 : Int))), (22, iV s5), (25, iV a1), (26, iV s13), (35, .one (.dat (.sl tLI) y21)), (36, iV (lenI y21)), (37, iV s23), (38, bV (decide (s23 < (lenI y21))))], [(0, .box [iC a0.1, iC a0.2.1, nC a0.2.2.1, .dat (.sl .bool) a0.2.2.2]), (1, .box [.nilS, .nilS])], 2⟩ hX (by kernel_rfl) allNil ?_
                refine HT.seq ?_
                rcases of_bif hx28 with ⟨hb30, hx28⟩ | ⟨hb30, hx28⟩
                · refine HT.cond1 rfl hb30 ?_
                  refine HT.skip (qThen ?_)
                  refine HT.seq ?_
                  refine HT.block ?_
                  obtain ⟨hg31, hx28⟩ := of_guard hx28
                  refine HT.rg2 (oHs 3) ⟨[(1, iV a1), (2, pV 0 0), (4, pV 1 0), (6, iV s5), (9, nV (List.getD y21 (Int.toNat s23) ([] : List Int))), (21, iV (wadd .i64 a1 (1 : Int))), (22, iV s5), (25, iV a1), (26, iV s13), (35, .one (.dat (.sl tLI) y21)), (36, iV (lenI y21)), (37, iV s23)], [(0, .box [iC a0.1, iC a0.2.1, nC a0.2.2.1, .dat (.sl .bool) a0.2.2.2]), (1, .box [.nilS, .nilS])], 2⟩ hX (by kernel_rfl) (allCons hg31 allNil) ?_
                  obtain ⟨hg32, hx28⟩ := of_guard hx28
                  obtain ⟨y33, hc34, hx28⟩ := of_bind hx28
                  obtain ⟨y35, hc36, hx28⟩ := of_bind hx28
                  refine HT.dr2 10 [⟨oH, []⟩, ⟨oH, []⟩, ⟨oH, [0, 1]⟩, ⟨⟨none, .call [.imm tLI] [⟨true, tLI, y33⟩] []⟩, [0, 1, 2]⟩, ⟨oH, []⟩, ⟨oH, []⟩, ⟨oH, [4, 5]⟩, ⟨⟨none, .call [.imm tLI] [⟨true, tLI, y35⟩] []⟩, [0, 1, 2, 3, 4, 5, 6]⟩, ⟨oH, [0, 1, 2, 3, 4, 5, 6, 7]⟩, ⟨oH, []⟩] [[0, 1, 2, 3, 4, 5, 6, 7, 8, 9]] [oH] ⟨[(1, iV a1), (2, pV 0 0), (4, pV 1 0), (6, iV s5), (10, pV 4 0), (21, iV (wadd .i64 a1 (1 : Int))), (22, iV s5), (25, iV a1), (26, iV s13), (35, .one (.dat (.sl tLI) y21)), (36, iV (lenI y21)), (37, iV s23)], [(4, .box [.all 2, .all 3]), (3, .seq tI y35), (2, .seq tI y33), (0, .box [iC a0.1, iC a0.2.1, nC a0.2.2.1, .dat (.sl .bool) a0.2.2.2]), (1, .box [.nilS, .nilS])], 5⟩ hX (by kernel_rfl) (by kernel_rfl) (allCons (show (0 : Int) ≤ 0 ∧ (0 : Int) ≤ s5 ∧ s5 ≤ lenI (List.getD y21 (Int.toNat s23) ([] : List Int)) from ⟨Int.le_refl _, hg32.1, hg32.2⟩) (allCons (f105_ok hc34) (allCons (show (0 : Int) ≤ s5 ∧ s5 ≤ lenI (List.getD y21 (Int.toNat s23) ([] : List Int)) ∧ lenI (List.getD y21 (Int.toNat s23) ([] : List Int)) ≤ lenI (List.getD y21 (Int.toNat s23) ([] : List Int)) from ⟨hg32.1, hg32.2, Int.le_refl _⟩) (allCons (f105_ok hc36) allNil)))) ?_
                  obtain ⟨y37, hc38, hx28⟩ := of_bind hx28
                  refine HT.rg2 [oH, oH, ⟨none, .call [.imm (.st (.pair tI (.pair tI (.pair tLI (.sl .bool))))), .imm (.st (.pair tLI tLI))] [⟨false, .bool, y37⟩] []⟩] ⟨[(1, iV a1), (2, pV 0 0), (4, pV 1 0), (6, iV s5), (10, pV 4 0), (21, iV (wadd .i64 a1 (1 : Int))), (22, iV s5), (25, iV a1), (26, iV s13), (35, .one (.dat (.sl tLI) y21)), (36, iV (lenI y21)), (37, iV s23), (52, bV y37)], [(4, .box [.all 2, .all 3]), (3, .seq tI y35), (2, .seq tI y33), (0, .box [iC a0.1, iC a0.2.1, nC a0.2.2.1, .dat (.sl .bool) a0.2.2.2]), (1, .box [.nilS, .nilS])], 5⟩ hX (by kernel_rfl) (allCons (f121_ok hc38) allNil) ?_
                  rcases of_bif hx28 with ⟨hb39, hx28⟩ | ⟨hb39, hx28⟩
                  · refine HT.cond1 rfl hb39 ?_
                    refine HT.rg2 (oHs 3) ⟨[(4, pV 1 0), (5, bV true)], [(1, .box [.all 2, .all 3]), (3, .seq tI y35), (2, .seq tI y33)], 5⟩ hX (by kernel_rfl) allNil ?_
                    have hx28 := of_some hx28
                    subst hx28
                    exact HT.retL (Le.re [(1, 0), (2, 1), (3, 2)] [] hX (by kernel_rfl)) (qBlockR (qThenR (qLoopR (hk29 (.inr (y33, y35)) rfl))))
                  · refine HT.cond0 rfl hb39 ?_
                    refine HT.skip (qBlock (qThen ?_))
                    have hx28 := of_some hx28
                    subst hx28
                    exact HT.rgK (oHs 2) [(0, 0), (1, 1)] [] hX (by kernel_rfl) allNil (fun _ h => (qLoopN ⟨(wadd .i64 s23 (1 : Int)), rfl, h⟩))
                · refine HT.cond0 rfl hb30 ?_
                  have hx28 := of_some hx28
                  subst hx28
                  exact HT.exitL (Le.re [(0, 0), (1, 1)] [] hX (by kernel_rfl)) (qThenE (qLoopE (hk29 (.inl ()) rfl)))
            · refine HT.cond0 rfl hb20 ?_
              have hx18 := of_some hx18
              subst hx18
              exact HT.exitL (Le.re [(0, 0), (1, 1)] [] hX (by kernel_rfl)) (qThenE (qLoopE (hk19 (.inl ()) rfl)))
        · refine HT.cond0 rfl hb12 ?_
          have hx10 := of_some hx10
          subst hx10
          exact HT.exitL (Le.re [(1, 0)] [] hX (by kernel_rfl)) (qThenE (qLoopE (hk11 (.inl ()) rfl)))
  · obtain ⟨y43, hc44, hT3⟩ := of_bind hT3
    rcases of_bif hT3 with ⟨hb45, hT3⟩ | ⟨hb45, hT3⟩
    · exact HT.rgK [oH, ⟨none, .call [.imm (.st (.pair tI (.pair tI (.pair tLI (.sl .bool)))))] [⟨false, .bool, y43⟩] []⟩, oH, oH, ⟨some true, .no⟩, ⟨some true, .no⟩, ⟨some true, .no⟩, ⟨none, .tv true⟩] [(0, 0), (1, 1)] [] hX (by kernel_rfl) (allCons (f100_ok hc44) (allCons hb45 (allCons hb45 (allCons hb45 (allCons hb45 allNil))))) (fun _ h => (qThen (h.ht (cont true (of_some hT3)))))
    · obtain ⟨y46, hc47, hT3⟩ := of_bind hT3
      exact HT.rgK [oH, ⟨none, .call [.imm (.st (.pair tI (.pair tI (.pair tLI (.sl .bool)))))] [⟨false, .bool, y43⟩] []⟩, oH, oH, ⟨some false, .no⟩, ⟨some false, .call [.imm tI, .imm tI, .imm tI] [⟨false, .bool, y46⟩] []⟩, ⟨some false, .no⟩, ⟨none, .tv false⟩] [(0, 0), (1, 1)] [] hX (by kernel_rfl) (allCons (f100_ok hc44) (allCons hb45 (allCons hb45 (allCons (f111_ok hc47) (allCons hb45 (allCons hb45 allNil)))))) (fun _ h => (qThen (h.ht (cont (!y46) (of_some hT3)))))

noncomputable def spec_l07Go (a0 : Int × Int × List Int × List Bool) (a1 : Int) (a2 : Int) : Option (Int) :=
  guardP ((0 : Int) ≤ (wadd .i64 (wmul .i64 a1 a0.2.1) a2) ∧ (wadd .i64 (wmul .i64 a1 a0.2.1) a2) < lenI a0.2.2.1) (
    some (List.getD a0.2.2.1 (Int.toNat (wadd .i64 (wmul .i64 a1 a0.2.1) a2)) (0 : Int)))

theorem f231_ok {a0 : Int × Int × List Int × List Bool} {a1 : Int} {a2 : Int} {r : Int} (hr : spec_l07Go a0 a1 a2 = some r) : CallOK Try.prog 231 [.pimm (.st (.pair tI (.pair tI (.pair tLI (.sl .bool))))) a0, .imm tI a1, .imm tI a2] [⟨false, tI, r⟩] [] := by
  unfold spec_l07Go at hr
  refine CallOK.of_body (ts := [(false, tI)]) Try.func231 rfl (by kernel_rfl) (Nat.le_of_ble_eq_true (by kernel_rfl)) fun cx hP hN hO hF => ?_
  have hO : cx.own.map Prod.fst = [] := hO
  have hX := CxIs.mk hP hN hO
  have hF := hF rfl
  show HT cx ⟨[(0, .one (.ip (.st (.pair tI (.pair tI (.pair tLI (.sl .bool))))) a0 0)), (1, iV a1), (2, iV a2)], [], 0⟩ _ _
  refine HT.rg2 [oH] ⟨[(0, .one (.ip (.st (.pair tI (.pair tI (.pair tLI (.sl .bool))))) a0 0)), (1, iV a1), (2, iV a2)], [], 0⟩ hX (by kernel_rfl) allNil ?_
  obtain ⟨hg1, hr⟩ := of_guard hr
  refine HT.dr2 12 [⟨oH, []⟩, ⟨oH, [0]⟩, ⟨oH, [0, 1]⟩, ⟨oH, [0, 1, 2]⟩, ⟨oH, []⟩, ⟨oH, []⟩, ⟨oH, [5]⟩, ⟨oH, [5, 6]⟩, ⟨oH, [5, 6, 7]⟩, ⟨oH, [4, 5, 6, 7, 8]⟩, ⟨oH, []⟩, ⟨oH, [4, 5, 6, 7, 8, 9, 10]⟩] [[0, 1, 2, 3, 4, 5, 6, 7, 8, 9, 10, 11], [0, 1, 2, 3, 4, 5, 6, 7, 8, 9, 10, 11, 12], [0, 1, 2, 3, 4, 5, 6, 7, 8, 9, 10, 11, 12, 13]] (oHs 3) ⟨[(6, iV (List.getD a0.2.2.1 (Int.toNat (wadd .i64 (wmul .i64 a1 a0.2.1) a2)) (0 : Int)))], [], 0⟩ hX (by kernel_rfl) (by kernel_rfl) (allCons hg1 allNil) ?_
  have hr := of_some hr
  subst hr
  exact HT.ret ⟨[iV (List.getD a0.2.2.1 (Int.toNat (wadd .i64 (wmul .i64 a1 a0.2.1) a2)) (0 : Int))], [], [], by kernel_rfl, by kernel_rfl, rfl, by kernel_rfl, by kernel_rfl, trivial⟩

noncomputable def spec_l00Put_B1 (a0 : List Int) (a1 : Int) (s1 : Bool × Int × List Int) : Option ((Bool × Int × List Int) ⊕ ((Bool × List Int))) :=
  bif (decide (s1.2.1 < (lenI a0))) then
    (show Option (Bool × List Int) from
      (show Option (Bool) from
        bif (!s1.1) then
          guardP ((0 : Int) ≤ s1.2.1 ∧ s1.2.1 < lenI a0) (
            some (decide ((List.getD a0 (Int.toNat s1.2.1) (0 : Int)) ≥ a1)))
        else
          some false).bind fun v18 =>
      bif v18 then
        guardP ((0 : Int) ≤ s1.2.1 ∧ s1.2.1 < lenI a0) (
          bif (decide ((List.getD a0 (Int.toNat s1.2.1) (0 : Int)) > a1)) then
            guardP (List.length s1.2.2 + List.length ([a1] : List Int) ≤ appMax) (
              some (true, (s1.2.2 ++ ([a1] : List Int))))
          else
            some (true, s1.2.2))
      else
        some (s1.1, s1.2.2)).bind fun v13 =>
    guardP ((0 : Int) ≤ s1.2.1 ∧ s1.2.1 < lenI a0) (
      guardP (List.length v13.2 + List.length ([(List.getD a0 (Int.toNat s1.2.1) (0 : Int))] : List Int) ≤ appMax) (
        some (.inl (v13.1, (wadd .i64 s1.2.1 (1 : Int)), (v13.2 ++ ([(List.getD a0 (Int.toNat s1.2.1) (0 : Int))] : List Int))))))
  else
    some (.inr (s1.1, s1.2.2))

noncomputable def spec_l00Put (a0 : List Int) (a1 : Int) : Option (List Int) :=
  (rounds (spec_l00Put_B1 a0 a1) (false, (0 : Int), ([] : List Int))).bind fun r3 =>
  (show Option (List Int) from
    bif (!r3.1) then
      guardP (List.length r3.2 + List.length ([a1] : List Int) ≤ appMax) (
        some (r3.2 ++ ([a1] : List Int)))
    else
      some r3.2).bind fun v4 =>
  some v4

theorem f232_ok {a0 : List Int} {a1 : Int} {r : List Int} (hr : spec_l00Put a0 a1 = some r) : CallOK Try.prog 232 [.imm tLI a0, .imm tI a1] [⟨true, tLI, r⟩] [] := by
  unfold spec_l00Put at hr
  refine CallOK.of_body (ts := [(true, tLI)]) Try.func232 rfl (by kernel_rfl) (Nat.le_of_ble_eq_true (by kernel_rfl)) fun cx hP hN hO hF => ?_
  have hO : cx.own.map Prod.fst = [] := hO
  have hX := CxIs.mk hP hN hO
  have hF := hF rfl
  show HT cx ⟨[(0, nV a0), (1, iV a1)], [], 0⟩ _ _
  refine HT.rg2 [oH] ⟨[(0, nV a0), (1, iV a1)], [], 0⟩ hX (by kernel_rfl) allNil ?_
  refine HT.rg2 (oHs 2) ⟨[(0, nV a0), (1, iV a1), (5, .one (.nilS))], [], 0⟩ hX (by kernel_rfl) allNil ?_
  refine HT.rg2 [oH] ⟨[(0, nV a0), (1, iV a1), (5, .one (.nilS)), (6, bV false)], [], 0⟩ hX (by kernel_rfl) allNil ?_
  refine HT.seq ?_
  refine HT.rg2 [oH] ⟨[(0, nV a0), (1, iV a1), (5, .one (.nilS)), (6, bV false), (7, iV (0 : Int))], [], 0⟩ hX (by kernel_rfl) allNil ?_
  refine HT.block ?_
  obtain ⟨r2, hL27, hr⟩ := of_bind hr
  refine HT.loopL (fun (s1 : Bool × Int × List Int) => ⟨[(0, nV a0), (1, iV a1), (5, aV 0), (6, bV s1.1), (7, iV s1.2.1)], [(0, .seq tI s1.2.2)], 1⟩) (fun (r3 : (Bool × List Int)) => (.exit 0, ⟨[(1, iV a1), (5, aV 0), (6, bV r3.1)], [(0, .seq tI r3.2)], 1⟩)) (Le.re [] [0] hX (by kernel_rfl)) hL27 ?_ (fun s1 x9 hx10 hk11 => ?_)
  · refine (qBlockX (qThen ?_))
    obtain ⟨v4', hT6, hr⟩ := of_bind hr
    refine HT.join (fun (v4 : List Int) => ⟨[(5, aV 0)], [(0, .seq tI v4)], 1⟩) (fun v => v = v4') (fun v4 hv5 => ?_) (fun cont => ?_)
    · subst hv5
      refine HT.rg2 (oHs 2) ⟨[(4, aV 0)], [(0, .seq tI v4)], 1⟩ hX (by kernel_rfl) allNil ?_
      have hr := of_some hr
      subst hr
      exact HT.ret ⟨[aV 0], [0], [], by kernel_rfl, by kernel_rfl, rfl, by kernel_rfl, by kernel_rfl, trivial⟩
    · refine HT.rg2 (oHs 2) ⟨[(1, iV a1), (5, aV 0), (43, bV (!r2.1))], [(0, .seq tI r2.2)], 1⟩ hX (by kernel_rfl) allNil ?_
      rcases of_bif hT6 with ⟨hb7, hT6⟩ | ⟨hb7, hT6⟩
      · refine HT.cond1 rfl hb7 ?_
        obtain ⟨hg8, hT6⟩ := of_guard hT6
        exact HT.rgK [oH, oH, ⟨none, .ty tI⟩, ⟨none, .ty tI⟩, oH] [(2, 0)] [] hX (by kernel_rfl) (allCons hg8 allNil) (fun _ h => (qThen (h.ht (cont (r2.2 ++ ([a1] : List Int)) (of_some hT6)))))
      · refine HT.cond0 rfl hb7 ?_
        refine HT.skip (qThen ?_)
        exact (Le.re [(0, 0)] [] hX (by kernel_rfl)).ht (cont r2.2 (of_some hT6))
  · refine HT.seq ?_
    refine HT.rg2 (oHs 4) ⟨[(0, nV a0), (1, iV a1), (5, aV 0), (6, bV s1.1), (7, iV s1.2.1), (12, bV (decide (s1.2.1 < (lenI a0))))], [(0, .seq tI s1.2.2)], 1⟩ hX (by kernel_rfl) allNil ?_
    rcases of_bif hx10 with ⟨hb12, hx10⟩ | ⟨hb12, hx10⟩
    · refine HT.cond1 rfl hb12 ?_
      refine HT.skip (qThen ?_)
      refine HT.seq ?_
      refine HT.block ?_
      obtain ⟨v13', hT15, hx10⟩ := of_bind hx10
      refine HT.join (fun (v13 : Bool × List Int) => ⟨[(0, nV a0), (1, iV a1), (5, aV 0), (6, bV v13.1), (7, iV s1.2.1)], [(0, .seq tI v13.2)], 1⟩) (fun v => v = v13') (fun v13 hv14 => ?_) (fun cont => ?_)
      · subst hv14
        obtain ⟨hg16, hx10⟩ := of_guard hx10
        obtain ⟨hg17, hx10⟩ := of_guard hx10
        refine HT.rgL [oH, oH, oH, oH, oH, ⟨none, .ty tI⟩, ⟨none, .ty tI⟩, oH] ⟨[(0, nV a0), (1, iV a1), (5, aV 2), (6, bV v13.1), (7, iV s1.2.1)], [(2, .seq tI (v13.2 ++ ([(List.getD a0 (Int.toNat s1.2.1) (0 : Int))] : List Int)))], 3⟩ hX (by kernel_rfl) (allCons hg16 (allCons hg17 allNil)) (qBlock (qThen ?_))
        have hx10 := of_some hx10
        subst hx10
        exact HT.rgK (oHs 3) [(2, 0)] [] hX (by kernel_rfl) allNil (fun _ h => (qLoopN ⟨(v13.1, (wadd .i64 s1.2.1 (1 : Int)), (v13.2 ++ ([(List.getD a0 (Int.toNat s1.2.1) (0 : Int))] : List Int))), rfl, h⟩))
      · obtain ⟨v18', hT20, hT15⟩ := of_bind hT15
        refine HT.join (fun (v18 : Bool) => ⟨[(0, nV a0), (1, iV a1), (5, aV 0), (6, bV s1.1), (7, iV s1.2.1), (24, bV v18)], [(0, .seq tI s1.2.2)], 1⟩) (fun v => v = v18') (fun v18 hv19 => ?_) (fun cont => ?_)
        · subst hv19
          rcases of_bif hT15 with ⟨hb21, hT15⟩ | ⟨hb21, hT15⟩
          · refine HT.cond1 rfl hb21 ?_
            refine HT.rg2 [oH] ⟨[(0, nV a0), (1, iV a1), (5, aV 0), (6, bV true), (7, iV s1.2.1)], [(0, .seq tI s1.2.2)], 1⟩ hX (by kernel_rfl) allNil ?_
            obtain ⟨hg22, hT15⟩ := of_guard hT15
            refine HT.rg2 (oHs 6) ⟨[(0, nV a0), (1, iV a1), (5, aV 0), (6, bV true), (7, iV s1.2.1), (30, bV (decide ((List.getD a0 (Int.toNat s1.2.1) (0 : Int)) > a1)))], [(0, .seq tI s1.2.2)], 1⟩ hX (by kernel_rfl) (allCons hg22 allNil) ?_
            rcases of_bif hT15 with ⟨hb23, hT15⟩ | ⟨hb23, hT15⟩
            · refine HT.cond1 rfl hb23 ?_
              obtain ⟨hg24, hT15⟩ := of_guard hT15
              exact HT.rgK [oH, oH, ⟨none, .ty tI⟩, ⟨none, .ty tI⟩, oH] [(2, 0)] [] hX (by kernel_rfl) (allCons hg24 allNil) (fun _ h => (qThen (h.ht (cont (true, (s1.2.2 ++ ([a1] : List Int))) (of_some hT15)))))
            · refine HT.cond0 rfl hb23 ?_
              refine HT.skip (qThen ?_)
              exact (Le.re [(0, 0)] [] hX (by kernel_rfl)).ht (cont (true, s1.2.2) (of_some hT15))
          · refine HT.cond0 rfl hb21 ?_
            refine HT.skip (qThen ?_)
            exact (Le.re [(0, 0)] [] hX (by kernel_rfl)).ht (cont (s1.1, s1.2.2) (of_some hT15))
        · rcases of_bif hT20 with ⟨hb25, hT20⟩ | ⟨hb25, hT20⟩
          · obtain ⟨hg26, hT20⟩ := of_guard hT20
            exact HT.rgK [oH, oH, oH, ⟨some true, .no⟩, ⟨some true, .no⟩, ⟨some true, .no⟩, ⟨some true, .no⟩, ⟨some true, .no⟩, ⟨some true, .no⟩, ⟨none, .tv true⟩] [(0, 0)] [] hX (by kernel_rfl) (allCons hb25 (allCons hb25 (allCons hb25 (allCons hg26 (allCons hb25 (allCons hb25 (allCons hb25 (allCons hb25 allNil)))))))) (fun _ h => (qThen (h.ht (cont (decide ((List.getD a0 (Int.toNat s1.2.1) (0 : Int)) ≥ a1)) (of_some hT20)))))
          · exact HT.rgK [oH, oH, oH, ⟨some false, .no⟩, ⟨some false, .no⟩, ⟨some false, .no⟩, ⟨some false, .no⟩, ⟨some false, .no⟩, ⟨some false, .no⟩, ⟨none, .tv false⟩] [(0, 0)] [] hX (by kernel_rfl) (allCons hb25 (allCons hb25 (allCons hb25 (allCons hb25 (allCons hb25 (allCons hb25 (allCons hb25 allNil))))))) (fun _ h => (qThen (h.ht (cont false (of_some hT20)))))
    · refine HT.cond0 rfl hb12 ?_
      have hx10 := of_some hx10
      subst hx10
      exact HT.exitL (Le.re [(0, 0)] [] hX (by kernel_rfl)) (qThenE (qLoopE (hk11 (s1.1, s1.2.2) rfl)))

noncomputable def spec_l07States_B1 (a0 : Int × Int × List Int × List Bool) (a1 : List Int × List Int) (s14 : Int × Int × List Int) : Option ((Int × Int × List Int) ⊕ ((Int × List Int))) :=
  bif (decide (s14.2.1 < (lenI a1.2))) then
    guardP ((0 : Int) ≤ s14.2.1 ∧ s14.2.1 < lenI a1.2) (
      (spec_l07Go (a0.1, a0.2.1, a0.2.2.1, a0.2.2.2) s14.1 (List.getD a1.2 (Int.toNat s14.2.1) (0 : Int))).bind fun y22 =>
      (spec_l00Put s14.2.2 y22).bind fun y24 =>
      some (.inl (y22, (wadd .i64 s14.2.1 (1 : Int)), y24)))
  else
    some (.inr (s14.1, s14.2.2))

noncomputable def spec_l07States_B2 (a0 : Int × Int × List Int × List Bool) (a1 : List Int × List Int) (s7 : Int × Int × List Int) : Option ((Int × Int × List Int) ⊕ (List Int)) :=
  bif (decide (s7.2.1 < a0.1)) then
    (rounds (spec_l07States_B1 a0 a1) (s7.1, (0 : Int), s7.2.2)).bind fun r16 =>
    some (.inl (r16.1, (wadd .i64 s7.2.1 (1 : Int)), r16.2))
  else
    some (.inr s7.2.2)

noncomputable def spec_l07States_B3 (a0 : Int × Int × List Int × List Bool) (a1 : List Int × List Int) (s32 : Int × Int) : Option ((Int × Int) ⊕ (Int)) :=
  bif (decide (s32.2 < (lenI a1.2))) then
    guardP ((0 : Int) ≤ s32.2 ∧ s32.2 < lenI a1.2) (
      (spec_l07Go (a0.1, a0.2.1, a0.2.2.1, a0.2.2.2) s32.1 (List.getD a1.2 (Int.toNat s32.2) (0 : Int))).bind fun y40 =>
      some (.inl (y40, (wadd .i64 s32.2 (1 : Int)))))
  else
    some (.inr s32.1)

noncomputable def spec_l07States_B4 (a0 : Int × Int × List Int × List Bool) (a1 : List Int × List Int) (s4 : Int × Int) : Option ((Int × Int) ⊕ (Int)) :=
  bif (decide (s4.2 < a0.1)) then
    (rounds (spec_l07States_B3 a0 a1) (s4.1, (0 : Int))).bind fun r34 =>
    some (.inl (r34, (wadd .i64 s4.2 (1 : Int))))
  else
    some (.inr s4.1)

noncomputable def spec_l07States_B5 (a0 : Int × Int × List Int × List Bool) (a1 : List Int × List Int) (s1 : Int × Int) : Option ((Int × Int) ⊕ (Int)) :=
  bif (decide (s1.2 < (lenI a1.1))) then
    guardP ((0 : Int) ≤ s1.2 ∧ s1.2 < lenI a1.1) (
      (spec_l07Go (a0.1, a0.2.1, a0.2.2.1, a0.2.2.2) s1.1 (List.getD a1.1 (Int.toNat s1.2) (0 : Int))).bind fun y49 =>
      some (.inl (y49, (wadd .i64 s1.2 (1 : Int)))))
  else
    some (.inr s1.1)

noncomputable def spec_l07States (a0 : Int × Int × List Int × List Bool) (a1 : List Int × List Int) : Option (List Int) :=
  (rounds (spec_l07States_B5 a0 a1) ((0 : Int), (0 : Int))).bind fun r3 =>
  (rounds (spec_l07States_B4 a0 a1) (r3, (0 : Int))).bind fun r6 =>
  (rounds (spec_l07States_B2 a0 a1) (r6, (0 : Int), ([] : List Int))).bind fun r9 =>
  some r9

theorem f200_ok {a0 : Int × Int × List Int × List Bool} {a1 : List Int × List Int} {r : List Int} (hr : spec_l07States a0 a1 = some r) : CallOK Try.prog 200 [.pimm (.st (.pair tI (.pair tI (.pair tLI (.sl .bool))))) a0, .pimm (.st (.pair tLI tLI)) a1] [⟨true, tLI, r⟩] [] := by
  unfold spec_l07States at hr
  refine CallOK.of_body (ts := [(true, tLI)]) Try.func200 rfl (by kernel_rfl) (Nat.le_of_ble_eq_true (by kernel_rfl)) fun cx hP hN hO hF => ?_
  have hO : cx.own.map Prod.fst = [] := hO
  have hX := CxIs.mk hP hN hO
  have hF := hF rfl
  show HT cx ⟨[(0, .one (.ip (.st (.pair tI (.pair tI (.pair tLI (.sl .bool))))) a0 0)), (1, .one (.ip (.st (.pair tLI tLI)) a1 0))], [], 0⟩ _ _
  refine HT.rg2 [oH] ⟨[(0, .one (.ip (.st (.pair tI (.pair tI (.pair tLI (.sl .bool))))) a0 0)), (1, .one (.ip (.st (.pair tLI tLI)) a1 0))], [], 0⟩ hX (by kernel_rfl) allNil ?_
  refine HT.rg2 [oH] ⟨[(0, .one (.ip (.st (.pair tI (.pair tI (.pair tLI (.sl .bool))))) a0 0)), (1, .one (.ip (.st (.pair tLI tLI)) a1 0)), (5, iV (0 : Int))], [], 0⟩ hX (by kernel_rfl) allNil ?_
  refine HT.seq ?_
  refine HT.rg2 (oHs 6) ⟨[(0, .one (.ip (.st (.pair tI (.pair tI (.pair tLI (.sl .bool))))) a0 0)), (1, .one (.ip (.st (.pair tLI tLI)) a1 0)), (5, iV (0 : Int)), (16, iV (lenI a1.1)), (17, iV (0 : Int))], [], 0⟩ hX (by kernel_rfl) allNil ?_
  refine HT.block ?_
  obtain ⟨r2, hL51, hr⟩ := of_bind hr
  refine HT.loopL (fun (s1 : Int × Int) => ⟨[(0, .one (.ip (.st (.pair tI (.pair tI (.pair tLI (.sl .bool))))) a0 0)), (1, .one (.ip (.st (.pair tLI tLI)) a1 0)), (5, iV s1.1), (16, iV (lenI a1.1)), (17, iV s1.2)], [], 0⟩) (fun (r3 : Int) => (.exit 0, ⟨[(0, .one (.ip (.st (.pair tI (.pair tI (.pair tLI (.sl .bool))))) a0 0)), (1, .one (.ip (.st (.pair tLI tLI)) a1 0)), (5, iV r3)], [], 0⟩)) (Le.re [] [] hX (by kernel_rfl)) hL51 ?_ (fun s1 x44 hx45 hk46 => ?_)
  · refine (qBlockX (qThen ?_))
    refine HT.seq ?_
    refine HT.rg2 [oH] ⟨[(0, .one (.ip (.st (.pair tI (.pair tI (.pair tLI (.sl .bool))))) a0 0)), (1, .one (.ip (.st (.pair tLI tLI)) a1 0)), (5, iV r2), (7, iV (0 : Int))], [], 0⟩ hX (by kernel_rfl) allNil ?_
    refine HT.block ?_
    obtain ⟨r5, hL43, hr⟩ := of_bind hr
    refine HT.loopL (fun (s4 : Int × Int) => ⟨[(0, .one (.ip (.st (.pair tI (.pair tI (.pair tLI (.sl .bool))))) a0 0)), (1, .one (.ip (.st (.pair tLI tLI)) a1 0)), (5, iV s4.1), (7, iV s4.2)], [], 0⟩) (fun (r6 : Int) => (.exit 2, ⟨[(0, .one (.ip (.st (.pair tI (.pair tI (.pair tLI (.sl .bool))))) a0 0)), (1, .one (.ip (.st (.pair tLI tLI)) a1 0)), (5, iV r6)], [], 0⟩)) (Le.re [] [] hX (by kernel_rfl)) hL43 ?_ (fun s4 x28 hx29 hk30 => ?_)
    · refine (qBlockX (qThen ?_))
      refine HT.rg2 (oHs 2) ⟨[(0, .one (.ip (.st (.pair tI (.pair tI (.pair tLI (.sl .bool))))) a0 0)), (1, .one (.ip (.st (.pair tLI tLI)) a1 0)), (5, iV r5), (9, .one (.nilS))], [], 0⟩ hX (by kernel_rfl) allNil ?_
      refine HT.seq ?_
      refine HT.rg2 [oH] ⟨[(0, .one (.ip (.st (.pair tI (.pair tI (.pair tLI (.sl .bool))))) a0 0)), (1, .one (.ip (.st (.pair tLI tLI)) a1 0)), (5, iV r5), (9, .one (.nilS)), (10, iV (0 : Int))], [], 0⟩ hX (by kernel_rfl) allNil ?_
      refine HT.block ?_
      obtain ⟨r8, hL27, hr⟩ := of_bind hr
      refine HT.loopL (fun (s7 : Int × Int × List Int) => ⟨[(0, .one (.ip (.st (.pair tI (.pair tI (.pair tLI (.sl .bool))))) a0 0)), (1, .one (.ip (.st (.pair tLI tLI)) a1 0)), (5, iV s7.1), (9, aV 0), (10, iV s7.2.1)], [(0, .seq tI s7.2.2)], 1⟩) (fun (r9 : List Int) => (.exit 6, ⟨[(9, aV 0)], [(0, .seq tI r9)], 1⟩)) (Le.re [] [0] hX (by kernel_rfl)) hL27 ?_ (fun s7 x10 hx11 hk12 => ?_)
      · refine (qBlockX (qThen ?_))
        refine HT.rg2 (oHs 2) ⟨[(4, aV 0)], [(0, .seq tI r8)], 1⟩ hX (by kernel_rfl) allNil ?_
        have hr := of_some hr
        subst hr
        exact HT.ret ⟨[aV 0], [0], [], by kernel_rfl, by kernel_rfl, rfl, by kernel_rfl, by kernel_rfl, trivial⟩
      · refine HT.seq ?_
        refine HT.rg2 (oHs 6) ⟨[(0, .one (.ip (.st (.pair tI (.pair tI (.pair tLI (.sl .bool))))) a0 0)), (1, .one (.ip (.st (.pair tLI tLI)) a1 0)), (5, iV s7.1), (9, aV 0), (10, iV s7.2.1), (64, bV (decide (s7.2.1 < a0.1)))], [(0, .seq tI s7.2.2)], 1⟩ hX (by kernel_rfl) allNil ?_
        rcases of_bif hx11 with ⟨hb13, hx11⟩ | ⟨hb13, hx11⟩
        · refine HT.cond1 rfl hb13 ?_
          refine HT.skip (qThen ?_)
          refine HT.seq ?_
          refine HT.block ?_
          refine HT.rg2 (oHs 6) ⟨[(0, .one (.ip (.st (.pair tI (.pair tI (.pair tLI (.sl .bool))))) a0 0)), (1, .one (.ip (.st (.pair tLI tLI)) a1 0)), (5, iV s7.1), (9, aV 0), (10, iV s7.2.1), (71, iV (lenI a1.2)), (72, iV (0 : Int))], [(0, .seq tI s7.2.2)], 1⟩ hX (by kernel_rfl) allNil ?_
          refine HT.block ?_
          obtain ⟨r15, hL26, hx11⟩ := of_bind hx11
          refine HT.loopL (fun (s14 : Int × Int × List Int) => ⟨[(0, .one (.ip (.st (.pair tI (.pair tI (.pair tLI (.sl .bool))))) a0 0)), (1, .one (.ip (.st (.pair tLI tLI)) a1 0)), (5, iV s14.1), (9, aV 0), (10, iV s7.2.1), (71, iV (lenI a1.2)), (72, iV s14.2.1)], [(0, .seq tI s14.2.2)], 1⟩) (fun (r16 : (Int × List Int)) => (.exit 8, ⟨[(0, .one (.ip (.st (.pair tI (.pair tI (.pair tLI (.sl .bool))))) a0 0)), (1, .one (.ip (.st (.pair tLI tLI)) a1 0)), (5, iV r16.1), (9, aV 0), (10, iV s7.2.1)], [(0, .seq tI r16.2)], 1⟩)) (Le.re [(0, 0)] [] hX (by kernel_rfl)) hL26 ?_ (fun s14 x17 hx18 hk19 => ?_)
          · refine (qBlockX (qBlock (qThen ?_)))
            have hx11 := of_some hx11
            subst hx11
            exact HT.rgK (oHs 3) [(0, 0)] [] hX (by kernel_rfl) allNil (fun _ h => (qLoopN ⟨(r15.1, (wadd .i64 s7.2.1 (1 : Int)), r15.2), rfl, h⟩))
          · refine HT.rg2 [oH] ⟨[(0, .one (.ip (.st (.pair tI (.pair tI (.pair tLI (.sl .bool))))) a0 0)), (1, .one (.ip (.st (.pair tLI tLI)) a1 0)), (5, iV s14.1), (9, aV 0), (10, iV s7.2.1), (71, iV (lenI a1.2)), (72, iV s14.2.1), (73, bV (decide (s14.2.1 < (lenI a1.2))))], [(0, .seq tI s14.2.2)], 1⟩ hX (by kernel_rfl) allNil ?_
            refine HT.seq ?_
            rcases of_bif hx18 with ⟨hb20, hx18⟩ | ⟨hb20, hx18⟩
            · refine HT.cond1 rfl hb20 ?_
              refine HT.skip (qThen ?_)
              refine HT.seq ?_
              refine HT.block ?_
              refine HT.rg2 (oHs 2) ⟨[(0, .one (.ip (.st (.pair tI (.pair tI (.pair tLI (.sl .bool))))) a0 0)), (1, .one (.ip (.st (.pair tLI tLI)) a1 0)), (5, iV s14.1), (9, aV 0), (10, iV s7.2.1), (11, iV s14.2.1), (71, iV (lenI a1.2)), (72, iV s14.2.1)], [(0, .seq tI s14.2.2)], 1⟩ hX (by kernel_rfl) allNil ?_
              obtain ⟨hg21, hx18⟩ := of_guard hx18
              obtain ⟨y22, hc23, hx18⟩ := of_bind hx18
              refine HT.rg2 [oH, oH, oH, oH, oH, oH, oH, oH, oH, ⟨none, .call [.pimm (.st (.pair tI (.pair tI (.pair tLI (.sl .bool))))), .imm tI, .imm tI] [⟨false, tI, y22⟩] []⟩, oH] ⟨[(0, .one (.ip (.st (.pair tI (.pair tI (.pair tLI (.sl .bool))))) a0 0)), (1, .one (.ip (.st (.pair tLI tLI)) a1 0)), (5, iV y22), (9, aV 0), (10, iV s7.2.1), (71, iV (lenI a1.2)), (72, iV s14.2.1)], [(0, .seq tI s14.2.2)], 1⟩ hX (by kernel_rfl) (allCons hg21 (allCons (f231_ok hc23) allNil)) ?_
              obtain ⟨y24, hc25, hx18⟩ := of_bind hx18
              refine HT.rgL [oH, oH, ⟨none, .call [.imm tLI, .imm tI] [⟨true, tLI, y24⟩] []⟩, oH] ⟨[(0, .one (.ip (.st (.pair tI (.pair tI (.pair tLI (.sl .bool))))) a0 0)), (1, .one (.ip (.st (.pair tLI tLI)) a1 0)), (5, iV y22), (9, aV 1), (10, iV s7.2.1), (71, iV (lenI a1.2)), (72, iV s14.2.1)], [(1, .seq tI y24)], 2⟩ hX (by kernel_rfl) (allCons (f232_ok hc25) allNil) (qBlock (qThen ?_))
              have hx18 := of_some hx18
              subst hx18
              exact HT.rgK (oHs 2) [(1, 0)] [] hX (by kernel_rfl) allNil (fun _ h => (qLoopN ⟨(y22, (wadd .i64 s14.2.1 (1 : Int)), y24), rfl, h⟩))
            · refine HT.cond0 rfl hb20 ?_
              have hx18 := of_some hx18
              subst hx18
              exact HT.exitL (Le.re [(0, 0)] [] hX (by kernel_rfl)) (qThenE (qLoopE (hk19 (s14.1, s14.2.2) rfl)))
        · refine HT.cond0 rfl hb13 ?_
          have hx11 := of_some hx11
          subst hx11
          exact HT.exitL (Le.re [(0, 0)] [] hX (by kernel_rfl)) (qThenE (qLoopE (hk12 s7.2.2 rfl)))
    · refine HT.seq ?_
      refine HT.rg2 (oHs 6) ⟨[(0, .one (.ip (.st (.pair tI (.pair tI (.pair tLI (.sl .bool))))) a0 0)), (1, .one (.ip (.st (.pair tLI tLI)) a1 0)), (5, iV s4.1), (7, iV s4.2), (36, bV (decide (s4.2 < a0.1)))], [], 0⟩ hX (by kernel_rfl) allNil ?_
      rcases of_bif hx29 with ⟨hb31, hx29⟩ | ⟨hb31, hx29⟩
      · refine HT.cond1 rfl hb31 ?_
        refine HT.skip (qThen ?_)
        refine HT.seq ?_
        refine HT.block ?_
        refine HT.rg2 (oHs 6) ⟨[(0, .one (.ip (.st (.pair tI (.pair tI (.pair tLI (.sl .bool))))) a0 0)), (1, .one (.ip (.st (.pair tLI tLI)) a1 0)), (5, iV s4.1), (7, iV s4.2), (43, iV (lenI a1.2)), (44, iV (0 : Int))], [], 0⟩ hX (by kernel_rfl) allNil ?_
        refine HT.block ?_
        obtain ⟨r33, hL42, hx29⟩ := of_bind hx29
        refine HT.loopL (fun (s32 : Int × Int) => ⟨[(0, .one (.ip (.st (.pair tI (.pair tI (.pair tLI (.sl .bool))))) a0 0)), (1, .one (.ip (.st (.pair tLI tLI)) a1 0)), (5, iV s32.1), (7, iV s4.2), (43, iV (lenI a1.2)), (44, iV s32.2)], [], 0⟩) (fun (r34 : Int) => (.exit 4, ⟨[(0, .one (.ip (.st (.pair tI (.pair tI (.pair tLI (.sl .bool))))) a0 0)), (1, .one (.ip (.st (.pair tLI tLI)) a1 0)), (5, iV r34), (7, iV s4.2)], [], 0⟩)) (Le.re [] [] hX (by kernel_rfl)) hL42 ?_ (fun s32 x35 hx36 hk37 => ?_)
        · refine (qBlockX (qBlock (qThen ?_)))
          have hx29 := of_some hx29
          subst hx29
          exact HT.rgK (oHs 3) [] [] hX (by kernel_rfl) allNil (fun _ h => (qLoopN ⟨(r33, (wadd .i64 s4.2 (1 : Int))), rfl, h⟩))
        · refine HT.rg2 [oH] ⟨[(0, .one (.ip (.st (.pair tI (.pair tI (.pair tLI (.sl .bool))))) a0 0)), (1, .one (.ip (.st (.pair tLI tLI)) a1 0)), (5, iV s32.1), (7, iV s4.2), (43, iV (lenI a1.2)), (44, iV s32.2), (45, bV (decide (s32.2 < (lenI a1.2))))], [], 0⟩ hX (by kernel_rfl) allNil ?_
          refine HT.seq ?_
          rcases of_bif hx36 with ⟨hb38, hx36⟩ | ⟨hb38, hx36⟩
          · refine HT.cond1 rfl hb38 ?_
            refine HT.skip (qThen ?_)
            refine HT.seq ?_
            refine HT.block ?_
            refine HT.rg2 (oHs 2) ⟨[(0, .one (.ip (.st (.pair tI (.pair tI (.pair tLI (.sl .bool))))) a0 0)), (1, .one (.ip (.st (.pair tLI tLI)) a1 0)), (5, iV s32.1), (7, iV s4.2), (8, iV s32.2), (43, iV (lenI a1.2)), (44, iV s32.2)], [], 0⟩ hX (by kernel_rfl) allNil ?_
            obtain ⟨hg39, hx36⟩ := of_guard hx36
            obtain ⟨y40, hc41, hx36⟩ := of_bind hx36
            refine HT.rgL [oH, oH, oH, oH, oH, oH, oH, oH, oH, ⟨none, .call [.pimm (.st (.pair tI (.pair tI (.pair tLI (.sl .bool))))), .imm tI, .imm tI] [⟨false, tI, y40⟩] []⟩, oH] ⟨[(0, .one (.ip (.st (.pair tI (.pair tI (.pair tLI (.sl .bool))))) a0 0)), (1, .one (.ip (.st (.pair tLI tLI)) a1 0)), (5, iV y40), (7, iV s4.2), (43, iV (lenI a1.2)), (44, iV s32.2)], [], 0⟩ hX (by kernel_rfl) (allCons hg39 (allCons (f231_ok hc41) allNil)) (qBlock (qThen ?_))
            have hx36 := of_some hx36
            subst hx36
            exact HT.rgK (oHs 2) [] [] hX (by kernel_rfl) allNil (fun _ h => (qLoopN ⟨(y40, (wadd .i64 s32.2 (1 : Int))), rfl, h⟩))
          · refine HT.cond0 rfl hb38 ?_
            have hx36 := of_some hx36
            subst hx36
            exact HT.exitL (Le.re [] [] hX (by kernel_rfl)) (qThenE (qLoopE (hk37 s32.1 rfl)))
      · refine HT.cond0 rfl hb31 ?_
        have hx29 := of_some hx29
        subst hx29
        exact HT.exitL (Le.re [] [] hX (by kernel_rfl)) (qThenE (qLoopE (hk30 s4.1 rfl)))
  · refine HT.rg2 [oH] ⟨[(0, .one (.ip (.st (.pair tI (.pair tI (.pair tLI (.sl .bool))))) a0 0)), (1, .one (.ip (.st (.pair tLI tLI)) a1 0)), (5, iV s1.1), (16, iV (lenI a1.1)), (17, iV s1.2), (18, bV (decide (s1.2 < (lenI a1.1))))], [], 0⟩ hX (by kernel_rfl) allNil ?_
    refine HT.seq ?_
    rcases of_bif hx45 with ⟨hb47, hx45⟩ | ⟨hb47, hx45⟩
    · refine HT.cond1 rfl hb47 ?_
      refine HT.skip (qThen ?_)
      refine HT.seq ?_
      refine HT.block ?_
      refine HT.rg2 (oHs 2) ⟨[(0, .one (.ip (.st (.pair tI (.pair tI (.pair tLI (.sl .bool))))) a0 0)), (1, .one (.ip (.st (.pair tLI tLI)) a1 0)), (5, iV s1.1), (6, iV s1.2), (16, iV (lenI a1.1)), (17, iV s1.2)], [], 0⟩ hX (by kernel_rfl) allNil ?_
      obtain ⟨hg48, hx45⟩ := of_guard hx45
      obtain ⟨y49, hc50, hx45⟩ := of_bind hx45
      refine HT.rgL [oH, oH, oH, oH, oH, oH, oH, oH, oH, ⟨none, .call [.pimm (.st (.pair tI (.pair tI (.pair tLI (.sl .bool))))), .imm tI, .imm tI] [⟨false, tI, y49⟩] []⟩, oH] ⟨[(0, .one (.ip (.st (.pair tI (.pair tI (.pair tLI (.sl .bool))))) a0 0)), (1, .one (.ip (.st (.pair tLI tLI)) a1 0)), (5, iV y49), (16, iV (lenI a1.1)), (17, iV s1.2)], [], 0⟩ hX (by kernel_rfl) (allCons hg48 (allCons (f231_ok hc50) allNil)) (qBlock (qThen ?_))
      have hx45 := of_some hx45
      subst hx45
      exact HT.rgK (oHs 2) [] [] hX (by kernel_rfl) allNil (fun _ h => (qLoopN ⟨(y49, (wadd .i64 s1.2 (1 : Int))), rfl, h⟩))
    · refine HT.cond0 rfl hb47 ?_
      have hx45 := of_some hx45
      subst hx45
      exact HT.exitL (Le.re [] [] hX (by kernel_rfl)) (qThenE (qLoopE (hk46 s1.1 rfl)))

noncomputable def spec_l07Reads_B1 (a0 : Int × Int × List Int × List Bool) (y1 : List Int) (s3 : Int) : Option ((Int) ⊕ (Unit ⊕ Unit)) :=
  bif (decide (s3 < (lenI y1))) then
    guardP ((0 : Int) ≤ s3 ∧ s3 < lenI y1) (
      guardP ((0 : Int) ≤ (List.getD y1 (Int.toNat s3) (0 : Int)) ∧ (List.getD y1 (Int.toNat s3) (0 : Int)) < lenI a0.2.2.2) (
        bif (List.getD a0.2.2.2 (Int.toNat (List.getD y1 (Int.toNat s3) (0 : Int))) false) then
          some (.inr (.inr ()))
        else
          some (.inl (wadd .i64 s3 (1 : Int)))))
  else
    some (.inr (.inl ()))

noncomputable def spec_l07Reads (a0 : Int × Int × List Int × List Bool) (a1 : List Int × List Int) : Option (Bool) :=
  (spec_l07States (a0.1, a0.2.1, a0.2.2.1, a0.2.2.2) (a1.1, a1.2)).bind fun y1 =>
  (rounds (spec_l07Reads_B1 a0 y1) (0 : Int)).bind fun r4 => match r4 with
    | .inl r5 =>
      some false
    | .inr r6 =>
      some true

theorem f124_ok {a0 : Int × Int × List Int × List Bool} {a1 : List Int × List Int} {r : Bool} (hr : spec_l07Reads a0 a1 = some r) : CallOK Try.prog 124 [.pimm (.st (.pair tI (.pair tI (.pair tLI (.sl .bool))))) a0, .pimm (.st (.pair tLI tLI)) a1] [⟨false, .bool, r⟩] [] := by
  unfold spec_l07Reads at hr
  refine CallOK.of_body (ts := [(false, .bool)]) Try.func124 rfl (by kernel_rfl) (Nat.le_of_ble_eq_true (by kernel_rfl)) fun cx hP hN hO hF => ?_
  have hO : cx.own.map Prod.fst = [] := hO
  have hX := CxIs.mk hP hN hO
  have hF := hF rfl
  show HT cx ⟨[(0, .one (.ip (.st (.pair tI (.pair tI (.pair tLI (.sl .bool))))) a0 0)), (1, .one (.ip (.st (.pair tLI tLI)) a1 0))], [], 0⟩ _ _
  refine HT.rg2 [oH] ⟨[(0, .one (.ip (.st (.pair tI (.pair tI (.pair tLI (.sl .bool))))) a0 0)), (1, .one (.ip (.st (.pair tLI tLI)) a1 0))], [], 0⟩ hX (by kernel_rfl) allNil ?_
  obtain ⟨y1, hc2, hr⟩ := of_bind hr
  refine HT.rg2 [oH, oH, ⟨none, .call [.pimm (.st (.pair tI (.pair tI (.pair tLI (.sl .bool))))), .pimm (.st (.pair tLI tLI))] [⟨true, tLI, y1⟩] []⟩, oH] ⟨[(0, .one (.ip (.st (.pair tI (.pair tI (.pair tLI (.sl .bool))))) a0 0)), (5, aV 0)], [(0, .seq tI y1)], 1⟩ hX (by kernel_rfl) (allCons (f200_ok hc2) allNil) ?_
  refine HT.seq ?_
  refine HT.rg2 (oHs 3) ⟨[(0, .one (.ip (.st (.pair tI (.pair tI (.pair tLI (.sl .bool))))) a0 0)), (5, aV 0), (11, iV (lenI y1)), (12, iV (0 : Int))], [(0, .seq tI y1)], 1⟩ hX (by kernel_rfl) allNil ?_
  refine HT.block ?_
  obtain ⟨r4, hL14, hr⟩ := of_bind hr
  refine HT.loopL (fun (s3 : Int) => ⟨[(0, .one (.ip (.st (.pair tI (.pair tI (.pair tLI (.sl .bool))))) a0 0)), (5, aV 0), (11, iV (lenI y1)), (12, iV s3)], [(0, .seq tI y1)], 1⟩) (fun (r4 : Unit ⊕ Unit) => match r4 with | .inl r5 => (.exit 0, ⟨[], [], 0⟩) | .inr r6 => (.ret, ⟨[(4, bV true)], [], 0⟩)) (Le.re [(0, 0)] [] hX (by kernel_rfl)) hL14 ?_ (fun s3 x7 hx8 hk9 => ?_)
  · rcases r4 with r5 | r6
    · refine (qBlockX (qThen ?_))
      refine HT.rg2 [oH] ⟨[(4, bV false)], [], 0⟩ hX (by kernel_rfl) allNil ?_
      have hr := of_some hr
      subst hr
      exact HT.ret ⟨[bV false], [], [], by kernel_rfl, by kernel_rfl, rfl, by kernel_rfl, by kernel_rfl, trivial⟩
    · have hr := of_some hr
      subst hr
      exact (qBlockR (qThenR ⟨[bV true], [], [], by kernel_rfl, by kernel_rfl, rfl, by kernel_rfl, by kernel_rfl, trivial⟩))
  · refine HT.rg2 [oH] ⟨[(0, .one (.ip (.st (.pair tI (.pair tI (.pair tLI (.sl .bool))))) a0 0)), (5, aV 0), (11, iV (lenI y1)), (12, iV s3), (13, bV (decide (s3 < (lenI y1))))], [(0, .seq tI y1)], 1⟩ hX (by kernel_rfl) allNil ?_
    refine HT.seq ?_
    rcases of_bif hx8 with ⟨hb10, hx8⟩ | ⟨hb10, hx8⟩
    · refine HT.cond1 rfl hb10 ?_
      refine HT.skip (qThen ?_)
      refine HT.seq ?_
      refine HT.block ?_
      refine HT.rg2 (oHs 2) ⟨[(0, .one (.ip (.st (.pair tI (.pair tI (.pair tLI (.sl .bool))))) a0 0)), (5, aV 0), (6, iV s3), (11, iV (lenI y1)), (12, iV s3)], [(0, .seq tI y1)], 1⟩ hX (by kernel_rfl) allNil ?_
      obtain ⟨hg11, hx8⟩ := of_guard hx8
      obtain ⟨hg12, hx8⟩ := of_guard hx8
      refine HT.dr2 8 [⟨oH, []⟩, ⟨oH, [0]⟩, ⟨oH, [0, 1]⟩, ⟨oH, [0, 1, 2]⟩, ⟨oH, []⟩, ⟨oH, []⟩, ⟨oH, [4, 5]⟩, ⟨oH, [4, 5, 6]⟩] [[0, 1, 2, 3, 4, 5, 6, 7], [0, 1, 2, 3, 4, 5, 6, 7, 8]] (oHs 2) ⟨[(0, .one (.ip (.st (.pair tI (.pair tI (.pair tLI (.sl .bool))))) a0 0)), (5, aV 0), (11, iV (lenI y1)), (12, iV s3), (24, bV (List.getD a0.2.2.2 (Int.toNat (List.getD y1 (Int.toNat s3) (0 : Int))) false))], [(0, .seq tI y1)], 1⟩ hX (by kernel_rfl) (by kernel_rfl) (allCons hg11 (allCons (natLt hg11) (allCons hg12 allNil))) ?_
      rcases of_bif hx8 with ⟨hb13, hx8⟩ | ⟨hb13, hx8⟩
      · refine HT.cond1 rfl hb13 ?_
        refine HT.rg2 [oH] ⟨[(4, bV true)], [], 1⟩ hX (by kernel_rfl) allNil ?_
        have hx8 := of_some hx8
        subst hx8
        exact HT.retL (Le.re [] [] hX (by kernel_rfl)) (qBlockR (qThenR (qLoopR (hk9 (.inr ()) rfl))))
      · refine HT.cond0 rfl hb13 ?_
        refine HT.skip (qBlock (qThen ?_))
        have hx8 := of_some hx8
        subst hx8
        exact HT.rgK (oHs 2) [(0, 0)] [] hX (by kernel_rfl) allNil (fun _ h => (qLoopN ⟨(wadd .i64 s3 (1 : Int)), rfl, h⟩))
    · refine HT.cond0 rfl hb10 ?_
      have hx8 := of_some hx8
      subst hx8
      exact HT.exitL (Le.re [] [] hX (by kernel_rfl)) (qThenE (qLoopE (hk9 (.inl ()) rfl)))

noncomputable def spec_l02Plain_B1 (a0 : Int × Int × List Int × List Bool) (s5 : Int) : Option ((Int) ⊕ (Unit ⊕ Unit)) :=
  bif (decide (s5 < (lenI a0.2.2.1))) then
    guardP ((0 : Int) ≤ s5 ∧ s5 < lenI a0.2.2.1) (
      (spec_l00In (List.getD a0.2.2.1 (Int.toNat s5) (0 : Int)) (0 : Int) (wsub .i64 a0.1 (1 : Int))).bind fun y14 =>
      bif (!y14) then
        some (.inr (.inr ()))
      else
        some (.inl (wadd .i64 s5 (1 : Int))))
  else
    some (.inr (.inl ()))

noncomputable def spec_l02Plain (a0 : Int × Int × List Int × List Bool) : Option (Bool) :=
  (show Option (Bool) from
    (spec_l00In a0.1 (1 : Int) (64 : Int)).bind fun y18 =>
    bif (!y18) then
      some true
    else
      (spec_l00In a0.2.1 (1 : Int) (4 : Int)).bind fun y21 =>
      bif (!y21) then
        some true
      else
        bif ((lenI a0.2.2.1) != (wmul .i64 a0.1 a0.2.1)) then
          some true
        else
          some ((lenI a0.2.2.2) != a0.1)).bind fun v1 =>
  bif v1 then
    some false
  else
    (rounds (spec_l02Plain_B1 a0) (0 : Int)).bind fun r6 => match r6 with
      | .inl r7 =>
        some true
      | .inr r8 =>
        some false

theorem f123_ok {a0 : Int × Int × List Int × List Bool} {r : Bool} (hr : spec_l02Plain a0 = some r) : CallOK Try.prog 123 [.pimm (.st (.pair tI (.pair tI (.pair tLI (.sl .bool))))) a0] [⟨false, .bool, r⟩] [] := by
  unfold spec_l02Plain at hr
  refine CallOK.of_body (ts := [(false, .bool)]) Try.func123 rfl (by kernel_rfl) (Nat.le_of_ble_eq_true (by kernel_rfl)) fun cx hP hN hO hF => ?_
  have hO : cx.own.map Prod.fst = [] := hO
  have hX := CxIs.mk hP hN hO
  have hF := hF rfl
  show HT cx ⟨[(0, .one (.ip (.st (.pair tI (.pair tI (.pair tLI (.sl .bool))))) a0 0))], [], 0⟩ _ _
  refine HT.rg2 [oH] ⟨[(0, .one (.ip (.st (.pair tI (.pair tI (.pair tLI (.sl .bool))))) a0 0))], [], 0⟩ hX (by kernel_rfl) allNil ?_
  refine HT.seq ?_
  obtain ⟨v1', hT3, hr⟩ := of_bind hr
  refine HT.join (fun (v1 : Bool) => ⟨[(0, .one (.ip (.st (.pair tI (.pair tI (.pair tLI (.sl .bool))))) a0 0)), (46, bV v1)], [], 0⟩) (fun v => v = v1') (fun v1 hv2 => ?_) (fun cont => ?_)
  · subst hv2
    rcases of_bif hr with ⟨hb4, hr⟩ | ⟨hb4, hr⟩
    · refine HT.cond1 rfl hb4 ?_
      refine HT.rg2 [oH] ⟨[(2, bV false)], [], 0⟩ hX (by kernel_rfl) allNil ?_
      have hr := of_some hr
      subst hr
      exact HT.ret (qThenR ⟨[bV false], [], [], by kernel_rfl, by kernel_rfl, rfl, by kernel_rfl, by kernel_rfl, trivial⟩)
    · refine HT.cond0 rfl hb4 ?_
      refine HT.skip (qThen ?_)
      refine HT.seq ?_
      refine HT.rg2 [oH] ⟨[(0, .one (.ip (.st (.pair tI (.pair tI (.pair tLI (.sl .bool))))) a0 0)), (3, iV (0 : Int))], [], 0⟩ hX (by kernel_rfl) allNil ?_
      refine HT.block ?_
      obtain ⟨r6, hL17, hr⟩ := of_bind hr
      refine HT.loopL (fun (s5 : Int) => ⟨[(0, .one (.ip (.st (.pair tI (.pair tI (.pair tLI (.sl .bool))))) a0 0)), (3, iV s5)], [], 0⟩) (fun (r6 : Unit ⊕ Unit) => match r6 with | .inl r7 => (.exit 0, ⟨[], [], 0⟩) | .inr r8 => (.ret, ⟨[(2, bV false)], [], 0⟩)) (Le.re [] [] hX (by kernel_rfl)) hL17 ?_ (fun s5 x9 hx10 hk11 => ?_)
      · rcases r6 with r7 | r8
        · refine (qBlockX (qThen ?_))
          refine HT.rg2 [oH] ⟨[(2, bV true)], [], 0⟩ hX (by kernel_rfl) allNil ?_
          have hr := of_some hr
          subst hr
          exact HT.ret ⟨[bV true], [], [], by kernel_rfl, by kernel_rfl, rfl, by kernel_rfl, by kernel_rfl, trivial⟩
        · have hr := of_some hr
          subst hr
          exact (qBlockR (qThenR ⟨[bV false], [], [], by kernel_rfl, by kernel_rfl, rfl, by kernel_rfl, by kernel_rfl, trivial⟩))
      · refine HT.seq ?_
        refine HT.rg2 (oHs 7) ⟨[(0, .one (.ip (.st (.pair tI (.pair tI (.pair tLI (.sl .bool))))) a0 0)), (3, iV s5), (53, bV (decide (s5 < (lenI a0.2.2.1))))], [], 0⟩ hX (by kernel_rfl) allNil ?_
        rcases of_bif hx10 with ⟨hb12, hx10⟩ | ⟨hb12, hx10⟩
        · refine HT.cond1 rfl hb12 ?_
          refine HT.skip (qThen ?_)
          refine HT.seq ?_
          refine HT.block ?_
          obtain ⟨hg13, hx10⟩ := of_guard hx10
          obtain ⟨y14, hc15, hx10⟩ := of_bind hx10
          refine HT.dr2 12 [⟨oH, []⟩, ⟨oH, [0]⟩, ⟨oH, [0, 1]⟩, ⟨oH, [0, 1, 2]⟩, ⟨oH, []⟩, ⟨oH, [0, 1, 2, 3, 4]⟩, ⟨oH, [0, 1, 2, 3, 4, 5]⟩, ⟨oH, []⟩, ⟨oH, [7]⟩, ⟨oH, [7, 8]⟩, ⟨oH, [7, 8, 9]⟩, ⟨oH, [7, 8, 9, 10]⟩] [[0, 1, 2, 3, 4, 5, 6, 7, 8, 9, 10, 11], [0, 1, 2, 3, 4, 5, 6, 7, 8, 9, 10, 11, 12]] [⟨none, .call [.imm tI, .imm tI, .imm tI] [⟨false, .bool, y14⟩] []⟩, oH] ⟨[(0, .one (.ip (.st (.pair tI (.pair tI (.pair tLI (.sl .bool))))) a0 0)), (3, iV s5), (69, bV (!y14))], [], 0⟩ hX (by kernel_rfl) (by kernel_rfl) (allCons hg13 (allCons (f114_ok hc15) allNil)) ?_
          rcases of_bif hx10 with ⟨hb16, hx10⟩ | ⟨hb16, hx10⟩
          · refine HT.cond1 rfl hb16 ?_
            refine HT.rg2 [oH] ⟨[(2, bV false)], [], 0⟩ hX (by kernel_rfl) allNil ?_
            have hx10 := of_some hx10
            subst hx10
            exact HT.retL (Le.re [] [] hX (by kernel_rfl)) (qBlockR (qThenR (qLoopR (hk11 (.inr ()) rfl))))
          · refine HT.cond0 rfl hb16 ?_
            refine HT.skip (qBlock (qThen ?_))
            have hx10 := of_some hx10
            subst hx10
            exact HT.rgK (oHs 3) [] [] hX (by kernel_rfl) allNil (fun _ h => (qLoopN ⟨(wadd .i64 s5 (1 : Int)), rfl, h⟩))
        · refine HT.cond0 rfl hb12 ?_
          have hx10 := of_some hx10
          subst hx10
          exact HT.exitL (Le.re [] [] hX (by kernel_rfl)) (qThenE (qLoopE (hk11 (.inl ()) rfl)))
  · obtain ⟨y18, hc19, hT3⟩ := of_bind hT3
    rcases of_bif hT3 with ⟨hb20, hT3⟩ | ⟨hb20, hT3⟩
    · exact HT.drK 41 [⟨oH, []⟩, ⟨oH, [0]⟩, ⟨oH, [0, 1]⟩, ⟨oH, [0, 1, 2]⟩, ⟨⟨none, .call [.imm tI, .imm tI, .imm tI] [⟨false, .bool, y18⟩] []⟩, [0, 1, 2, 3]⟩, ⟨oH, [0, 1, 2, 3, 4]⟩, ⟨oH, [0, 1, 2, 3, 4, 5]⟩, ⟨⟨some true, .no⟩, [0, 1, 2, 3, 4, 5, 6]⟩, ⟨⟨some true, .no⟩, [0, 1, 2, 3, 4, 5, 6, 7]⟩, ⟨⟨some true, .no⟩, [0, 1, 2, 3, 4, 5, 6, 7, 8]⟩, ⟨⟨some true, .no⟩, [0, 1, 2, 3, 4, 5, 6, 7, 8, 9]⟩, ⟨⟨some true, .no⟩, [0, 1, 2, 3, 4, 5, 6, 7, 8, 9, 10]⟩, ⟨⟨some true, .no⟩, [0, 1, 2, 3, 4, 5, 6, 7, 8, 9, 10, 11]⟩, ⟨⟨none, .tv true⟩, [0, 1, 2, 3, 4, 5, 6, 7, 8, 9, 10, 11, 12]⟩, ⟨oH, [0, 1, 2, 3, 4, 5, 6, 7, 8, 9, 10, 11, 12, 13]⟩, ⟨⟨some true, .no⟩, [0, 1, 2, 3, 4, 5, 6, 7, 8, 9, 10, 11, 12, 13, 14]⟩, ⟨⟨some true, .no⟩, [0, 1, 2, 3, 4, 5, 6, 7, 8, 9, 10, 11, 12, 13, 14, 15]⟩, ⟨⟨some true, .no⟩, [0, 1, 2, 3, 4, 5, 6, 7, 8, 9, 10, 11, 12, 13, 14, 15, 16]⟩, ⟨⟨some true, .no⟩, [0, 1, 2, 3, 4, 5, 6, 7, 8, 9, 10, 11, 12, 13, 14, 15, 16, 17]⟩, ⟨⟨some true, .no⟩, [0, 1, 2, 3, 4, 5, 6, 7, 8, 9, 10, 11, 12, 13, 14, 15, 16, 17, 18]⟩, ⟨⟨some true, .no⟩, [0, 1, 2, 3, 4, 5, 6, 7, 8, 9, 10, 11, 12, 13, 14]⟩, ⟨⟨some true, .no⟩, [0, 1, 2, 3, 4, 5, 6, 7, 8, 9, 10, 11, 12, 13, 14, 20]⟩, ⟨⟨some true, .no⟩, [0, 1, 2, 3, 4, 5, 6, 7, 8, 9, 10, 11, 12, 13, 14, 20, 21]⟩, ⟨⟨some true, .no⟩, [0, 1, 2, 3, 4, 5, 6, 7, 8, 9, 10, 11, 12, 13, 14, 20, 21, 22]⟩, ⟨⟨some true, .no⟩, [0, 1, 2, 3, 4, 5, 6, 7, 8, 9, 10, 11, 12, 13, 14]⟩, ⟨⟨some true, .no⟩, [0, 1, 2, 3, 4, 5, 6, 7, 8, 9, 10, 11, 12, 13, 14, 24]⟩, ⟨⟨some true, .no⟩, [0, 1, 2, 3, 4, 5, 6, 7, 8, 9, 10, 11, 12, 13, 14, 24, 25]⟩, ⟨⟨some true, .no⟩, [0, 1, 2, 3, 4, 5, 6, 7, 8, 9, 10, 11, 12, 13, 14, 24, 25, 26]⟩, ⟨⟨some true, .no⟩, [0, 1, 2, 3, 4, 5, 6, 7, 8, 9, 10, 11, 12, 13, 14, 20, 21, 22, 23, 24, 25, 26, 27]⟩, ⟨⟨some true, .no⟩, [0, 1, 2, 3, 4, 5, 6, 7, 8, 9, 10, 11, 12, 13, 14, 15, 16, 17, 18, 19, 20, 21, 22, 23, 24, 25, 26, 27, 28]⟩, ⟨⟨none, .tv true⟩, [0, 1, 2, 3, 4, 5, 6, 7, 8, 9, 10, 11, 12, 13, 14, 15, 16, 17, 18, 19, 20, 21, 22, 23, 24, 25, 26, 27, 28, 29]⟩, ⟨oH, [0, 1, 2, 3, 4, 5, 6, 7, 8, 9, 10, 11, 12, 13, 14, 15, 16, 17, 18, 19, 20, 21, 22, 23, 24, 25, 26, 27, 28, 29, 30]⟩, ⟨⟨some true, .no⟩, [0, 1, 2, 3, 4, 5, 6, 7, 8, 9, 10, 11, 12, 13, 14, 15, 16, 17, 18, 19, 20, 21, 22, 23, 24, 25, 26, 27, 28, 29, 30, 31]⟩, ⟨⟨some true, .no⟩, [0, 1, 2, 3, 4, 5, 6, 7, 8, 9, 10, 11, 12, 13, 14, 15, 16, 17, 18, 19, 20, 21, 22, 23, 24, 25, 26, 27, 28, 29, 30, 31, 32]⟩, ⟨⟨some true, .no⟩, [0, 1, 2, 3, 4, 5, 6, 7, 8, 9, 10, 11, 12, 13, 14, 15, 16, 17, 18, 19, 20, 21, 22, 23, 24, 25, 26, 27, 28, 29, 30, 31, 32, 33]⟩, ⟨⟨some true, .no⟩, [0, 1, 2, 3, 4, 5, 6, 7, 8, 9, 10, 11, 12, 13, 14, 15, 16, 17, 18, 19, 20, 21, 22, 23, 24, 25, 26, 27, 28, 29, 30, 31, 32, 33, 34]⟩, ⟨⟨some true, .no⟩, [0, 1, 2, 3, 4, 5, 6, 7, 8, 9, 10, 11, 12, 13, 14, 15, 16, 17, 18, 19, 20, 21, 22, 23, 24, 25, 26, 27, 28, 29, 30, 31, 32, 33, 34, 35]⟩, ⟨⟨some true, .no⟩, [0, 1, 2, 3, 4, 5, 6, 7, 8, 9, 10, 11, 12, 13, 14, 15, 16, 17, 18, 19, 20, 21, 22, 23, 24, 25, 26, 27, 28, 29, 30, 31]⟩, ⟨⟨some true, .no⟩, [0, 1, 2, 3, 4, 5, 6, 7, 8, 9, 10, 11, 12, 13, 14, 15, 16, 17, 18, 19, 20, 21, 22, 23, 24, 25, 26, 27, 28, 29, 30, 31, 37]⟩, ⟨⟨some true, .no⟩, [0, 1, 2, 3, 4, 5, 6, 7, 8, 9, 10, 11, 12, 13, 14, 15, 16, 17, 18, 19, 20, 21, 22, 23, 24, 25, 26, 27, 28, 29, 30, 31, 37, 38]⟩, ⟨⟨some true, .no⟩, [0, 1, 2, 3, 4, 5, 6, 7, 8, 9, 10, 11, 12, 13, 14, 15, 16, 17, 18, 19, 20, 21, 22, 23, 24, 25, 26, 27, 28, 29, 30, 31, 37, 38, 39]⟩] [[0, 1, 2, 3, 4, 5, 6, 7, 8, 9, 10, 11, 12, 13, 14, 15, 16, 17, 18, 19, 20, 21, 22, 23, 24, 25, 26, 27, 28, 29, 30, 31, 32, 33, 34, 35, 36, 37, 38, 39, 40], [0, 1, 2, 3, 4, 5, 6, 7, 8, 9, 10, 11, 12, 13, 14, 15, 16, 17, 18, 19, 20, 21, 22, 23, 24, 25, 26, 27, 28, 29, 30, 31, 32, 33, 34, 35, 36, 37, 38, 39, 40, 41]] [⟨some true, .no⟩, ⟨none, .tv true⟩] [] [] hX (by kernel_rfl) (by kernel_rfl) (allCons (f114_ok hc19) (allCons hb20 (allCons hb20 (allCons hb20 (allCons hb20 (allCons hb20 (allCons hb20 (allCons hb20 (allCons (rfl : true = true) (allCons (rfl : true = true) (allCons (rfl : true = true) (allCons (rfl : true = true) (allCons (rfl : true = true) (allCons (rfl : true = true) (allCons (rfl : true = true) (allCons (rfl : true = true) (allCons (rfl : true = true) (allCons (rfl : true = true) (allCons (rfl : true = true) (allCons (rfl : true = true) (allCons (rfl : true = true) (allCons (rfl : true = true) (allCons (rfl : true = true) (allCons (rfl : true = true) (allCons (rfl : true = true) (allCons (rfl : true = true) (allCons (rfl : true = true) (allCons (rfl : true = true) (allCons (rfl : true = true) (allCons (rfl : true = true) (allCons (rfl : true = true) (allCons (rfl : true = true) (allCons (rfl : true = true) (allCons (rfl : true = true) (allCons (rfl : true = true) allNil))))))))))))))))))))))))))))))))))) (fun _ h => (qThen (h.ht (cont true (of_some hT3)))))
    · obtain ⟨y21, hc22, hT3⟩ := of_bind hT3
      rcases of_bif hT3 with ⟨hb23, hT3⟩ | ⟨hb23, hT3⟩
      · exact HT.drK 41 [⟨oH, []⟩, ⟨oH, [0]⟩, ⟨oH, [0, 1]⟩, ⟨oH, [0, 1, 2]⟩, ⟨⟨none, .call [.imm tI, .imm tI, .imm tI] [⟨false, .bool, y18⟩] []⟩, [0, 1, 2, 3]⟩, ⟨oH, [0, 1, 2, 3, 4]⟩, ⟨oH, [0, 1, 2, 3, 4, 5]⟩, ⟨⟨some false, .no⟩, [0, 1, 2, 3, 4, 5, 6]⟩, ⟨⟨some false, .no⟩, [0, 1, 2, 3, 4, 5, 6, 7]⟩, ⟨⟨some false, .no⟩, [0, 1, 2, 3, 4, 5, 6, 7, 8]⟩, ⟨⟨some false, .no⟩, [0, 1, 2, 3, 4, 5, 6, 7, 8, 9]⟩, ⟨⟨some false, .call [.imm tI, .imm tI, .imm tI] [⟨false, .bool, y21⟩] []⟩, [0, 1, 2, 3, 4, 5, 6, 7, 8, 9, 10]⟩, ⟨⟨some false, .no⟩, [0, 1, 2, 3, 4, 5, 6, 7, 8, 9, 10, 11]⟩, ⟨⟨none, .tv false⟩, [0, 1, 2, 3, 4, 5, 6, 7, 8, 9, 10, 11, 12]⟩, ⟨oH, [0, 1, 2, 3, 4, 5, 6, 7, 8, 9, 10, 11, 12, 13]⟩, ⟨⟨some true, .no⟩, [0, 1, 2, 3, 4, 5, 6, 7, 8, 9, 10, 11, 12, 13, 14]⟩, ⟨⟨some true, .no⟩, [0, 1, 2, 3, 4, 5, 6, 7, 8, 9, 10, 11, 12, 13, 14, 15]⟩, ⟨⟨some true, .no⟩, [0, 1, 2, 3, 4, 5, 6, 7, 8, 9, 10, 11, 12, 13, 14, 15, 16]⟩, ⟨⟨some true, .no⟩, [0, 1, 2, 3, 4, 5, 6, 7, 8, 9, 10, 11, 12, 13, 14, 15, 16, 17]⟩, ⟨⟨some true, .no⟩, [0, 1, 2, 3, 4, 5, 6, 7, 8, 9, 10, 11, 12, 13, 14, 15, 16, 17, 18]⟩, ⟨⟨some true, .no⟩, [0, 1, 2, 3, 4, 5, 6, 7, 8, 9, 10, 11, 12, 13, 14]⟩, ⟨⟨some true, .no⟩, [0, 1, 2, 3, 4, 5, 6, 7, 8, 9, 10, 11, 12, 13, 14, 20]⟩, ⟨⟨some true, .no⟩, [0, 1, 2, 3, 4, 5, 6, 7, 8, 9, 10, 11, 12, 13, 14, 20, 21]⟩, ⟨⟨some true, .no⟩, [0, 1, 2, 3, 4, 5, 6, 7, 8, 9, 10, 11, 12, 13, 14, 20, 21, 22]⟩, ⟨⟨some true, .no⟩, [0, 1, 2, 3, 4, 5, 6, 7, 8, 9, 10, 11, 12, 13, 14]⟩, ⟨⟨some true, .no⟩, [0, 1, 2, 3, 4, 5, 6, 7, 8, 9, 10, 11, 12, 13, 14, 24]⟩, ⟨⟨some true, .no⟩, [0, 1, 2, 3, 4, 5, 6, 7, 8, 9, 10, 11, 12, 13, 14, 24, 25]⟩, ⟨⟨some true, .no⟩, [0, 1, 2, 3, 4, 5, 6, 7, 8, 9, 10, 11, 12, 13, 14, 24, 25, 26]⟩, ⟨⟨some true, .no⟩, [0, 1, 2, 3, 4, 5, 6, 7, 8, 9, 10, 11, 12, 13, 14, 20, 21, 22, 23, 24, 25, 26, 27]⟩, ⟨⟨some true, .no⟩, [0, 1, 2, 3, 4, 5, 6, 7, 8, 9, 10, 11, 12, 13, 14, 15, 16, 17, 18, 19, 20, 21, 22, 23, 24, 25, 26, 27, 28]⟩, ⟨⟨none, .tv true⟩, [0, 1, 2, 3, 4, 5, 6, 7, 8, 9, 10, 11, 12, 13, 14, 15, 16, 17, 18, 19, 20, 21, 22, 23, 24, 25, 26, 27, 28, 29]⟩, ⟨oH, [0, 1, 2, 3, 4, 5, 6, 7, 8, 9, 10, 11, 12, 13, 14, 15, 16, 17, 18, 19, 20, 21, 22, 23, 24, 25, 26, 27, 28, 29, 30]⟩, ⟨⟨some true, .no⟩, [0, 1, 2, 3, 4, 5, 6, 7, 8, 9, 10, 11, 12, 13, 14, 15, 16, 17, 18, 19, 20, 21, 22, 23, 24, 25, 26, 27, 28, 29, 30, 31]⟩, ⟨⟨some true, .no⟩, [0, 1, 2, 3, 4, 5, 6, 7, 8, 9, 10, 11, 12, 13, 14, 15, 16, 17, 18, 19, 20, 21, 22, 23, 24, 25, 26, 27, 28, 29, 30, 31, 32]⟩, ⟨⟨some true, .no⟩, [0, 1, 2, 3, 4, 5, 6, 7, 8, 9, 10, 11, 12, 13, 14, 15, 16, 17, 18, 19, 20, 21, 22, 23, 24, 25, 26, 27, 28, 29, 30, 31, 32, 33]⟩, ⟨⟨some true, .no⟩, [0, 1, 2, 3, 4, 5, 6, 7, 8, 9, 10, 11, 12, 13, 14, 15, 16, 17, 18, 19, 20, 21, 22, 23, 24, 25, 26, 27, 28, 29, 30, 31, 32, 33, 34]⟩, ⟨⟨some true, .no⟩, [0, 1, 2, 3, 4, 5, 6, 7, 8, 9, 10, 11, 12, 13, 14, 15, 16, 17, 18, 19, 20, 21, 22, 23, 24, 25, 26, 27, 28, 29, 30, 31, 32, 33, 34, 35]⟩, ⟨⟨some true, .no⟩, [0, 1, 2, 3, 4, 5, 6, 7, 8, 9, 10, 11, 12, 13, 14, 15, 16, 17, 18, 19, 20, 21, 22, 23, 24, 25, 26, 27, 28, 29, 30, 31]⟩, ⟨⟨some true, .no⟩, [0, 1, 2, 3, 4, 5, 6, 7, 8, 9, 10, 11, 12, 13, 14, 15, 16, 17, 18, 19, 20, 21, 22, 23, 24, 25, 26, 27, 28, 29, 30, 31, 37]⟩, ⟨⟨some true, .no⟩, [0, 1, 2, 3, 4, 5, 6, 7, 8, 9, 10, 11, 12, 13, 14, 15, 16, 17, 18, 19, 20, 21, 22, 23, 24, 25, 26, 27, 28, 29, 30, 31, 37, 38]⟩, ⟨⟨some true, .no⟩, [0, 1, 2, 3, 4, 5, 6, 7, 8, 9, 10, 11, 12, 13, 14, 15, 16, 17, 18, 19, 20, 21, 22, 23, 24, 25, 26, 27, 28, 29, 30, 31, 37, 38, 39]⟩] [[0, 1, 2, 3, 4, 5, 6, 7, 8, 9, 10, 11, 12, 13, 14, 15, 16, 17, 18, 19, 20, 21, 22, 23, 24, 25, 26, 27, 28, 29, 30, 31, 32, 33, 34, 35, 36, 37, 38, 39, 40], [0, 1, 2, 3, 4, 5, 6, 7, 8, 9, 10, 11, 12, 13, 14, 15, 16, 17, 18, 19, 20, 21, 22, 23, 24, 25, 26, 27, 28, 29, 30, 31, 32, 33, 34, 35, 36, 37, 38, 39, 40, 41]] [⟨some true, .no⟩, ⟨none, .tv true⟩] [] [] hX (by kernel_rfl) (by kernel_rfl) (allCons (f114_ok hc19) (allCons hb20 (allCons hb20 (allCons hb20 (allCons hb20 (allCons hb20 (allCons (f114_ok hc22) (allCons hb20 (allCons hb20 (allCons hb23 (allCons hb23 (allCons hb23 (allCons hb23 (allCons hb23 (allCons hb23 (allCons hb23 (allCons hb23 (allCons hb23 (allCons hb23 (allCons hb23 (allCons hb23 (allCons hb23 (allCons hb23 (allCons hb23 (allCons hb23 (allCons (rfl : true = true) (allCons (rfl : true = true) (allCons (rfl : true = true) (allCons (rfl : true = true) (allCons (rfl : true = true) (allCons (rfl : true = true) (allCons (rfl : true = true) (allCons (rfl : true = true) (allCons (rfl : true = true) (allCons (rfl : true = true) (allCons (rfl : true = true) allNil)))))))))))))))))))))))))))))))))))) (fun _ h => (qThen (h.ht (cont true (of_some hT3)))))
      · rcases of_bif hT3 with ⟨hb24, hT3⟩ | ⟨hb24, hT3⟩
        · exact HT.drK 41 [⟨oH, []⟩, ⟨oH, [0]⟩, ⟨oH, [0, 1]⟩, ⟨oH, [0, 1, 2]⟩, ⟨⟨none, .call [.imm tI, .imm tI, .imm tI] [⟨false, .bool, y18⟩] []⟩, [0, 1, 2, 3]⟩, ⟨oH, [0, 1, 2, 3, 4]⟩, ⟨oH, [0, 1, 2, 3, 4, 5]⟩, ⟨⟨some false, .no⟩, [0, 1, 2, 3, 4, 5, 6]⟩, ⟨⟨some false, .no⟩, [0, 1, 2, 3, 4, 5, 6, 7]⟩, ⟨⟨some false, .no⟩, [0, 1, 2, 3, 4, 5, 6, 7, 8]⟩, ⟨⟨some false, .no⟩, [0, 1, 2, 3, 4, 5, 6, 7, 8, 9]⟩, ⟨⟨some false, .call [.imm tI, .imm tI, .imm tI] [⟨false, .bool, y21⟩] []⟩, [0, 1, 2, 3, 4, 5, 6, 7, 8, 9, 10]⟩, ⟨⟨some false, .no⟩, [0, 1, 2, 3, 4, 5, 6, 7, 8, 9, 10, 11]⟩, ⟨⟨none, .tv false⟩, [0, 1, 2, 3, 4, 5, 6, 7, 8, 9, 10, 11, 12]⟩, ⟨oH, [0, 1, 2, 3, 4, 5, 6, 7, 8, 9, 10, 11, 12, 13]⟩, ⟨⟨some false, .no⟩, [0, 1, 2, 3, 4, 5, 6, 7, 8, 9, 10, 11, 12, 13, 14]⟩, ⟨⟨some false, .no⟩, [0, 1, 2, 3, 4, 5, 6, 7, 8, 9, 10, 11, 12, 13, 14, 15]⟩, ⟨⟨some false, .no⟩, [0, 1, 2, 3, 4, 5, 6, 7, 8, 9, 10, 11, 12, 13, 14, 15, 16]⟩, ⟨⟨some false, .no⟩, [0, 1, 2, 3, 4, 5, 6, 7, 8, 9, 10, 11, 12, 13, 14, 15, 16, 17]⟩, ⟨⟨some false, .no⟩, [0, 1, 2, 3, 4, 5, 6, 7, 8, 9, 10, 11, 12, 13, 14, 15, 16, 17, 18]⟩, ⟨⟨some false, .no⟩, [0, 1, 2, 3, 4, 5, 6, 7, 8, 9, 10, 11, 12, 13, 14]⟩, ⟨⟨some false, .no⟩, [0, 1, 2, 3, 4, 5, 6, 7, 8, 9, 10, 11, 12, 13, 14, 20]⟩, ⟨⟨some false, .no⟩, [0, 1, 2, 3, 4, 5, 6, 7, 8, 9, 10, 11, 12, 13, 14, 20, 21]⟩, ⟨⟨some false, .no⟩, [0, 1, 2, 3, 4, 5, 6, 7, 8, 9, 10, 11, 12, 13, 14, 20, 21, 22]⟩, ⟨⟨some false, .no⟩, [0, 1, 2, 3, 4, 5, 6, 7, 8, 9, 10, 11, 12, 13, 14]⟩, ⟨⟨some false, .no⟩, [0, 1, 2, 3, 4, 5, 6, 7, 8, 9, 10, 11, 12, 13, 14, 24]⟩, ⟨⟨some false, .no⟩, [0, 1, 2, 3, 4, 5, 6, 7, 8, 9, 10, 11, 12, 13, 14, 24, 25]⟩, ⟨⟨some false, .no⟩, [0, 1, 2, 3, 4, 5, 6, 7, 8, 9, 10, 11, 12, 13, 14, 24, 25, 26]⟩, ⟨⟨some false, .no⟩, [0, 1, 2, 3, 4, 5, 6, 7, 8, 9, 10, 11, 12, 13, 14, 20, 21, 22, 23, 24, 25, 26, 27]⟩, ⟨⟨some false, .no⟩, [0, 1, 2, 3, 4, 5, 6, 7, 8, 9, 10, 11, 12, 13, 14, 15, 16, 17, 18, 19, 20, 21, 22, 23, 24, 25, 26, 27, 28]⟩, ⟨⟨none, .tv false⟩, [0, 1, 2, 3, 4, 5, 6, 7, 8, 9, 10, 11, 12, 13, 14, 15, 16, 17, 18, 19, 20, 21, 22, 23, 24, 25, 26, 27, 28, 29]⟩, ⟨oH, [0, 1, 2, 3, 4, 5, 6, 7, 8, 9, 10, 11, 12, 13, 14, 15, 16, 17, 18, 19, 20, 21, 22, 23, 24, 25, 26, 27, 28, 29, 30]⟩, ⟨⟨some true, .no⟩, [0, 1, 2, 3, 4, 5, 6, 7, 8, 9, 10, 11, 12, 13, 14, 15, 16, 17, 18, 19, 20, 21, 22, 23, 24, 25, 26, 27, 28, 29, 30, 31]⟩, ⟨⟨some true, .no⟩, [0, 1, 2, 3, 4, 5, 6, 7, 8, 9, 10, 11, 12, 13, 14, 15, 16, 17, 18, 19, 20, 21, 22, 23, 24, 25, 26, 27, 28, 29, 30, 31, 32]⟩, ⟨⟨some true, .no⟩, [0, 1, 2, 3, 4, 5, 6, 7, 8, 9, 10, 11, 12, 13, 14, 15, 16, 17, 18, 19, 20, 21, 22, 23, 24, 25, 26, 27, 28, 29, 30, 31, 32, 33]⟩, ⟨⟨some true, .no⟩, [0, 1, 2, 3, 4, 5, 6, 7, 8, 9, 10, 11, 12, 13, 14, 15, 16, 17, 18, 19, 20, 21, 22, 23, 24, 25, 26, 27, 28, 29, 30, 31, 32, 33, 34]⟩, ⟨⟨some true, .no⟩, [0, 1, 2, 3, 4, 5, 6, 7, 8, 9, 10, 11, 12, 13, 14, 15, 16, 17, 18, 19, 20, 21, 22, 23, 24, 25, 26, 27, 28, 29, 30, 31, 32, 33, 34, 35]⟩, ⟨⟨some true, .no⟩, [0, 1, 2, 3, 4, 5, 6, 7, 8, 9, 10, 11, 12, 13, 14, 15, 16, 17, 18, 19, 20, 21, 22, 23, 24, 25, 26, 27, 28, 29, 30, 31]⟩, ⟨⟨some true, .no⟩, [0, 1, 2, 3, 4, 5, 6, 7, 8, 9, 10, 11, 12, 13, 14, 15, 16, 17, 18, 19, 20, 21, 22, 23, 24, 25, 26, 27, 28, 29, 30, 31, 37]⟩, ⟨⟨some true, .no⟩, [0, 1, 2, 3, 4, 5, 6, 7, 8, 9, 10, 11, 12, 13, 14, 15, 16, 17, 18, 19, 20, 21, 22, 23, 24, 25, 26, 27, 28, 29, 30, 31, 37, 38]⟩, ⟨⟨some true, .no⟩, [0, 1, 2, 3, 4, 5, 6, 7, 8, 9, 10, 11, 12, 13, 14, 15, 16, 17, 18, 19, 20, 21, 22, 23, 24, 25, 26, 27, 28, 29, 30, 31, 37, 38, 39]⟩] [[0, 1, 2, 3, 4, 5, 6, 7, 8, 9, 10, 11, 12, 13, 14, 15, 16, 17, 18, 19, 20, 21, 22, 23, 24, 25, 26, 27, 28, 29, 30, 31, 32, 33, 34, 35, 36, 37, 38, 39, 40], [0, 1, 2, 3, 4, 5, 6, 7, 8, 9, 10, 11, 12, 13, 14, 15, 16, 17, 18, 19, 20, 21, 22, 23, 24, 25, 26, 27, 28, 29, 30, 31, 32, 33, 34, 35, 36, 37, 38, 39, 40, 41]] [⟨some true, .no⟩, ⟨none, .tv true⟩] [] [] hX (by kernel_rfl) (by kernel_rfl) (allCons (f114_ok hc19) (allCons hb20 (allCons hb20 (allCons hb20 (allCons hb20 (allCons hb20 (allCons (f114_ok hc22) (allCons hb20 (allCons hb20 (allCons hb23 (allCons hb23 (allCons hb23 (allCons hb23 (allCons hb23 (allCons hb23 (allCons hb23 (allCons hb23 (allCons hb23 (allCons hb23 (allCons hb23 (allCons hb23 (allCons hb23 (allCons hb23 (allCons hb23 (allCons hb23 (allCons hb24 (allCons hb24 (allCons hb24 (allCons hb24 (allCons hb24 (allCons hb24 (allCons hb24 (allCons hb24 (allCons hb24 (allCons hb24 (allCons hb24 allNil)))))))))))))))))))))))))))))))))))) (fun _ h => (qThen (h.ht (cont true (of_some hT3)))))
        · exact HT.drK 41 [⟨oH, []⟩, ⟨oH, [0]⟩, ⟨oH, [0, 1]⟩, ⟨oH, [0, 1, 2]⟩, ⟨⟨none, .call [.imm tI, .imm tI, .imm tI] [⟨false, .bool, y18⟩] []⟩, [0, 1, 2, 3]⟩, ⟨oH, [0, 1, 2, 3, 4]⟩, ⟨oH, [0, 1, 2, 3, 4, 5]⟩, ⟨⟨some false, .no⟩, [0, 1, 2, 3, 4, 5, 6]⟩, ⟨⟨some false, .no⟩, [0, 1, 2, 3, 4, 5, 6, 7]⟩, ⟨⟨some false, .no⟩, [0, 1, 2, 3, 4, 5, 6, 7, 8]⟩, ⟨⟨some false, .no⟩, [0, 1, 2, 3, 4, 5, 6, 7, 8, 9]⟩, ⟨⟨some false, .call [.imm tI, .imm tI, .imm tI] [⟨false, .bool, y21⟩] []⟩, [0, 1, 2, 3, 4, 5, 6, 7, 8, 9, 10]⟩, ⟨⟨some false, .no⟩, [0, 1, 2, 3, 4, 5, 6, 7, 8, 9, 10, 11]⟩, ⟨⟨none, .tv false⟩, [0, 1, 2, 3, 4, 5, 6, 7, 8, 9, 10, 11, 12]⟩, ⟨oH, [0, 1, 2, 3, 4, 5, 6, 7, 8, 9, 10, 11, 12, 13]⟩, ⟨⟨some false, .no⟩, [0, 1, 2, 3, 4, 5, 6, 7, 8, 9, 10, 11, 12, 13, 14]⟩, ⟨⟨some false, .no⟩, [0, 1, 2, 3, 4, 5, 6, 7, 8, 9, 10, 11, 12, 13, 14, 15]⟩, ⟨⟨some false, .no⟩, [0, 1, 2, 3, 4, 5, 6, 7, 8, 9, 10, 11, 12, 13, 14, 15, 16]⟩, ⟨⟨some false, .no⟩, [0, 1, 2, 3, 4, 5, 6, 7, 8, 9, 10, 11, 12, 13, 14, 15, 16, 17]⟩, ⟨⟨some false, .no⟩, [0, 1, 2, 3, 4, 5, 6, 7, 8, 9, 10, 11, 12, 13, 14, 15, 16, 17, 18]⟩, ⟨⟨some false, .no⟩, [0, 1, 2, 3, 4, 5, 6, 7, 8, 9, 10, 11, 12, 13, 14]⟩, ⟨⟨some false, .no⟩, [0, 1, 2, 3, 4, 5, 6, 7, 8, 9, 10, 11, 12, 13, 14, 20]⟩, ⟨⟨some false, .no⟩, [0, 1, 2, 3, 4, 5, 6, 7, 8, 9, 10, 11, 12, 13, 14, 20, 21]⟩, ⟨⟨some false, .no⟩, [0, 1, 2, 3, 4, 5, 6, 7, 8, 9, 10, 11, 12, 13, 14, 20, 21, 22]⟩, ⟨⟨some false, .no⟩, [0, 1, 2, 3, 4, 5, 6, 7, 8, 9, 10, 11, 12, 13, 14]⟩, ⟨⟨some false, .no⟩, [0, 1, 2, 3, 4, 5, 6, 7, 8, 9, 10, 11, 12, 13, 14, 24]⟩, ⟨⟨some false, .no⟩, [0, 1, 2, 3, 4, 5, 6, 7, 8, 9, 10, 11, 12, 13, 14, 24, 25]⟩, ⟨⟨some false, .no⟩, [0, 1, 2, 3, 4, 5, 6, 7, 8, 9, 10, 11, 12, 13, 14, 24, 25, 26]⟩, ⟨⟨some false, .no⟩, [0, 1, 2, 3, 4, 5, 6, 7, 8, 9, 10, 11, 12, 13, 14, 20, 21, 22, 23, 24, 25, 26, 27]⟩, ⟨⟨some false, .no⟩, [0, 1, 2, 3, 4, 5, 6, 7, 8, 9, 10, 11, 12, 13, 14, 15, 16, 17, 18, 19, 20, 21, 22, 23, 24, 25, 26, 27, 28]⟩, ⟨⟨none, .tv false⟩, [0, 1, 2, 3, 4, 5, 6, 7, 8, 9, 10, 11, 12, 13, 14, 15, 16, 17, 18, 19, 20, 21, 22, 23, 24, 25, 26, 27, 28, 29]⟩, ⟨oH, [0, 1, 2, 3, 4, 5, 6, 7, 8, 9, 10, 11, 12, 13, 14, 15, 16, 17, 18, 19, 20, 21, 22, 23, 24, 25, 26, 27, 28, 29, 30]⟩, ⟨⟨some false, .no⟩, [0, 1, 2, 3, 4, 5, 6, 7, 8, 9, 10, 11, 12, 13, 14, 15, 16, 17, 18, 19, 20, 21, 22, 23, 24, 25, 26, 27, 28, 29, 30, 31]⟩, ⟨⟨some false, .no⟩, [0, 1, 2, 3, 4, 5, 6, 7, 8, 9, 10, 11, 12, 13, 14, 15, 16, 17, 18, 19, 20, 21, 22, 23, 24, 25, 26, 27, 28, 29, 30, 31, 32]⟩, ⟨⟨some false, .no⟩, [0, 1, 2, 3, 4, 5, 6, 7, 8, 9, 10, 11, 12, 13, 14, 15, 16, 17, 18, 19, 20, 21, 22, 23, 24, 25, 26, 27, 28, 29, 30, 31, 32, 33]⟩, ⟨⟨some false, .no⟩, [0, 1, 2, 3, 4, 5, 6, 7, 8, 9, 10, 11, 12, 13, 14, 15, 16, 17, 18, 19, 20, 21, 22, 23, 24, 25, 26, 27, 28, 29, 30, 31, 32, 33, 34]⟩, ⟨⟨some false, .no⟩, [0, 1, 2, 3, 4, 5, 6, 7, 8, 9, 10, 11, 12, 13, 14, 15, 16, 17, 18, 19, 20, 21, 22, 23, 24, 25, 26, 27, 28, 29, 30, 31, 32, 33, 34, 35]⟩, ⟨⟨some false, .no⟩, [0, 1, 2, 3, 4, 5, 6, 7, 8, 9, 10, 11, 12, 13, 14, 15, 16, 17, 18, 19, 20, 21, 22, 23, 24, 25, 26, 27, 28, 29, 30, 31]⟩, ⟨⟨some false, .no⟩, [0, 1, 2, 3, 4, 5, 6, 7, 8, 9, 10, 11, 12, 13, 14, 15, 16, 17, 18, 19, 20, 21, 22, 23, 24, 25, 26, 27, 28, 29, 30, 31, 37]⟩, ⟨⟨some false, .no⟩, [0, 1, 2, 3, 4, 5, 6, 7, 8, 9, 10, 11, 12, 13, 14, 15, 16, 17, 18, 19, 20, 21, 22, 23, 24, 25, 26, 27, 28, 29, 30, 31, 37, 38]⟩, ⟨⟨some false, .no⟩, [0, 1, 2, 3, 4, 5, 6, 7, 8, 9, 10, 11, 12, 13, 14, 15, 16, 17, 18, 19, 20, 21, 22, 23, 24, 25, 26, 27, 28, 29, 30, 31, 37, 38, 39]⟩] [[0, 1, 2, 3, 4, 5, 6, 7, 8, 9, 10, 11, 12, 13, 14, 15, 16, 17, 18, 19, 20, 21, 22, 23, 24, 25, 26, 27, 28, 29, 30, 31, 32, 33, 34, 35, 36, 37, 38, 39, 40], [0, 1, 2, 3, 4, 5, 6, 7, 8, 9, 10, 11, 12, 13, 14, 15, 16, 17, 18, 19, 20, 21, 22, 23, 24, 25, 26, 27, 28, 29, 30, 31, 32, 33, 34, 35, 36, 37, 38, 39, 40, 41]] [⟨some false, .no⟩, ⟨none, .tv false⟩] [] [] hX (by kernel_rfl) (by kernel_rfl) (allCons (f114_ok hc19) (allCons hb20 (allCons hb20 (allCons hb20 (allCons hb20 (allCons hb20 (allCons (f114_ok hc22) (allCons hb20 (allCons hb20 (allCons hb23 (allCons hb23 (allCons hb23 (allCons hb23 (allCons hb23 (allCons hb23 (allCons hb23 (allCons hb23 (allCons hb23 (allCons hb23 (allCons hb23 (allCons hb23 (allCons hb23 (allCons hb23 (allCons hb23 (allCons hb23 (allCons hb24 (allCons hb24 (allCons hb24 (allCons hb24 (allCons hb24 (allCons hb24 (allCons hb24 (allCons hb24 (allCons hb24 (allCons hb24 (allCons hb24 allNil)))))))))))))))))))))))))))))))))))) (fun _ h => (qThen (h.ht (cont ((lenI a0.2.2.2) != a0.1) (of_some hT3)))))

end Go.Proofs
