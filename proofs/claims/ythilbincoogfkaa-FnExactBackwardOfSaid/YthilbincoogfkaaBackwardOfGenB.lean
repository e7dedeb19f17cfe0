import Derived.Test.YthilbincoogfkaaBackwardOfGenA
import Derived.Test.YthilbincoogfkaaProg
set_option linter.unusedVariables false
set_option linter.unusedSimpArgs false
set_option linter.unusedSectionVars false
/-
  Functions as plain functions, and their contracts. Printed by a program.
-/
namespace Go.Proofs
open Go.Ide

noncomputable def slices_Repeat___float32_float32_B1  (s13 : Int × List Nat) : Option ((Int × List Nat) ⊕ (List Nat)) :=
  bif (decide (s13.1 < (lenI s13.2))) then
    guardP ((0 : Int) ≤ s13.1 ∧ s13.1 ≤ lenI s13.2) (
      some (.inl ((wadd .i64 s13.1 ((Nat.min (List.length (List.take (Int.toNat s13.1) (List.drop 0 s13.2))) (Int.toNat (lenI s13.2) - Int.toNat s13.1) : Nat) : Int)), (List.take (Int.toNat s13.1) s13.2 ++ List.take (Nat.min (List.length (List.take (Int.toNat s13.1) (List.drop 0 s13.2))) (Int.toNat (lenI s13.2) - Int.toNat s13.1)) (List.take (Int.toNat s13.1) (List.drop 0 s13.2)) ++ List.drop ((Int.toNat s13.1) + Nat.min (List.length (List.take (Int.toNat s13.1) (List.drop 0 s13.2))) (Int.toNat (lenI s13.2) - Int.toNat s13.1)) s13.2))))
  else
    some (.inr s13.2)

noncomputable def slices_Repeat___float32_float32 (a0 : List Nat) (a1 : Int) : Option (List Nat) :=
  bif (decide (a1 < (0 : Int))) then
    none
  else
    (math_bits_Mul (IntKind.wrap .u64 (lenI a0)) (IntKind.wrap .u64 a1)).bind fun y2 =>
    (show Option (Bool) from
      bif (decide (y2.1 > (0 : Int))) then
        some true
      else
        some (decide (y2.2 > (9223372036854775807 : Int)))).bind fun v4 =>
    bif v4 then
      none
    else
      guardP ((0 : Int) ≤ (IntKind.wrap .i64 y2.2) ∧ (IntKind.wrap .i64 y2.2) ≤ 4294967296) (
        (some ((Nat.min (List.length a0) (List.length (List.replicate (Int.toNat (IntKind.wrap .i64 y2.2)) (0 : Nat))) : Nat) : Int)).bind fun q9 =>
        (some (List.take 0 (List.replicate (Int.toNat (IntKind.wrap .i64 y2.2)) (0 : Nat)) ++ List.take (Nat.min (List.length a0) (List.length (List.replicate (Int.toNat (IntKind.wrap .i64 y2.2)) (0 : Nat)))) a0 ++ List.drop (0 + Nat.min (List.length a0) (List.length (List.replicate (Int.toNat (IntKind.wrap .i64 y2.2)) (0 : Nat)))) (List.replicate (Int.toNat (IntKind.wrap .i64 y2.2)) (0 : Nat)))).bind fun q11 =>
        (rounds (slices_Repeat___float32_float32_B1) (q9, q11)).bind fun r15 =>
        some r15)

theorem f82_ok {a0 : List Nat} {a1 : Int} {r : List Nat} (hr : slices_Repeat___float32_float32 a0 a1 = some r) : CallOK Try.prog 82 [.imm (.sl (.flt .f32)) a0, .imm (.int .i64) a1] [⟨true, (.sl (.flt .f32)), r⟩] [] := by
  unfold slices_Repeat___float32_float32 at hr
  refine CallOK.of_body (ts := [(true, (.sl (.flt .f32)))]) Try.func82 rfl (by kernel_rfl) (Nat.le_of_ble_eq_true (by kernel_rfl)) fun cx hP hN hO hF => ?_
  have hO : cx.own.map Prod.fst = [] := hO
  have hF := hF rfl
  show HT cx ⟨[(0, .one (.dat (.sl (.flt .f32)) a0)), (1, .one (.dat (.int .i64) a1))], [], 0⟩ _ _
  refine HT.reg1 [0, 1] [⟨none, .no⟩] ⟨[(0, .one (.dat (.sl (.flt .f32)) a0)), (1, .one (.dat (.int .i64) a1))], [], 0⟩ hP hN (by kernel_rfl) allNil ?_
  refine HT.seq ?_
  refine HT.reg1 [0, 1, 10] [⟨none, .no⟩, ⟨none, .no⟩] ⟨[(0, .one (.dat (.sl (.flt .f32)) a0)), (1, .one (.dat (.int .i64) a1)), (10, .one (.dat .bool (decide (a1 < (0 : Int)))))], [], 0⟩ hP hN (by kernel_rfl) allNil ?_
  rcases of_bif hr with ⟨hb1, hr⟩ | ⟨hb1, hr⟩
  · refine HT.cond1 rfl hb1 ?_
    cases hr
  · refine HT.cond0 rfl hb1 ?_
    refine HT.skip (qThen ?_)
    obtain ⟨y2, hc3, hr⟩ := of_bind hr
    refine HT.reg1 [0, 5, 6] [⟨none, .no⟩, ⟨none, .no⟩, ⟨none, .no⟩, ⟨none, .no⟩, ⟨none, .no⟩, ⟨none, .call [.imm (.int .u64), .imm (.int .u64)] [⟨false, (.int .u64), y2.1⟩, ⟨false, (.int .u64), y2.2⟩] []⟩, ⟨none, .no⟩, ⟨none, .no⟩, ⟨none, .no⟩, ⟨none, .no⟩, ⟨none, .no⟩] ⟨[(0, .one (.dat (.sl (.flt .f32)) a0)), (5, .one (.dat (.int .u64) y2.1)), (6, .one (.dat (.int .u64) y2.2))], [], 0⟩ hP hN (by kernel_rfl) (allCons (f107_ok hc3) allNil) ?_
    refine HT.seq ?_
    obtain ⟨v4', hT6, hr⟩ := of_bind hr
    refine HT.join (fun (v4 : Bool) => ⟨[(0, .one (.dat (.sl (.flt .f32)) a0)), (6, .one (.dat (.int .u64) y2.2)), (26, .one (.dat .bool v4))], [], 0⟩) (fun v => v = v4') (fun v4 hv5 => ?_) (fun cont => ?_)
    · subst hv5
      rcases of_bif hr with ⟨hb7, hr⟩ | ⟨hb7, hr⟩
      · refine HT.cond1 rfl hb7 ?_
        cases hr
      · refine HT.cond0 rfl hb7 ?_
        refine HT.skip (qThen ?_)
        obtain ⟨hg8, hr⟩ := of_guard hr
        refine HT.reg1 [0, 7] [⟨none, .no⟩, ⟨none, .no⟩, ⟨none, .ty (.flt .f32)⟩, ⟨none, .no⟩] ⟨[(0, .one (.dat (.sl (.flt .f32)) a0)), (7, .one (.all 0))], [(0, .seq (.flt .f32) (List.replicate (Int.toNat (IntKind.wrap .i64 y2.2)) (0 : Nat)))], 1⟩ hP hN (by kernel_rfl) (allCons (show (0 : Int) ≤ (IntKind.wrap .i64 y2.2) ∧ (IntKind.wrap .i64 y2.2) ≤ (IntKind.wrap .i64 y2.2) ∧ (IntKind.wrap .i64 y2.2) ≤ 4294967296 from ⟨hg8.1, Int.le_refl _, hg8.2⟩) allNil) ?_
        refine HT.reg1 [7, 8] [⟨none, .no⟩, ⟨none, .no⟩, ⟨none, .no⟩, ⟨none, .no⟩] ⟨[(7, .one (.all 0)), (8, .one (.dat (.int .i64) ((Nat.min (List.length a0) (List.length (List.replicate (Int.toNat (IntKind.wrap .i64 y2.2)) (0 : Nat))) : Nat) : Int)))], [(0, .seq (.flt .f32) (List.take 0 (List.replicate (Int.toNat (IntKind.wrap .i64 y2.2)) (0 : Nat)) ++ List.take (Nat.min (List.length a0) (List.length (List.replicate (Int.toNat (IntKind.wrap .i64 y2.2)) (0 : Nat)))) a0 ++ List.drop (0 + Nat.min (List.length a0) (List.length (List.replicate (Int.toNat (IntKind.wrap .i64 y2.2)) (0 : Nat)))) (List.replicate (Int.toNat (IntKind.wrap .i64 y2.2)) (0 : Nat)))), (0, .seq (.flt .f32) (List.replicate (Int.toNat (IntKind.wrap .i64 y2.2)) (0 : Nat)))], 1⟩ hP hN (by kernel_rfl) allNil ?_
        obtain ⟨q9, hq10, hr⟩ := of_bind hr
        have hq10 := of_some2 hq10
        obtain ⟨q11, hq12, hr⟩ := of_bind hr
        have hq12 := of_some2 hq12
        refine (Le.cv (s := ⟨[(0, 0)], [], [], false⟩) (own := []) (ps := [q9 = ((Nat.min (List.length a0) (List.length (List.replicate (Int.toNat (IntKind.wrap .i64 y2.2)) (0 : Nat))) : Nat) : Int), q11 = (List.take 0 (List.replicate (Int.toNat (IntKind.wrap .i64 y2.2)) (0 : Nat)) ++ List.take (Nat.min (List.length a0) (List.length (List.replicate (Int.toNat (IntKind.wrap .i64 y2.2)) (0 : Nat)))) a0 ++ List.drop (0 + Nat.min (List.length a0) (List.length (List.replicate (Int.toNat (IntKind.wrap .i64 y2.2)) (0 : Nat)))) (List.replicate (Int.toNat (IntKind.wrap .i64 y2.2)) (0 : Nat)))]) (st' := ⟨[(7, .one (.all 0)), (8, .one (.dat (.int .i64) q9))], [(0, .seq (.flt .f32) q11)], 1⟩) hO (fun h => by cases h) (by kernel_rfl) ⟨hq10, hq12, trivial⟩).ht ?_
        refine HT.seq ?_
        refine HT.block ?_
        obtain ⟨r14, hL21, hr⟩ := of_bind hr
        refine (Le.cv (s := ⟨[(0, 0)], [], [], false⟩) (own := []) (ps := [q9 = q9, q11 = q11]) (st' := ⟨[(7, .one (.all 0)), (8, .one (.dat (.int .i64) q9))], [(0, .seq (.flt .f32) q11)], 1⟩) hO (fun h => by cases h) (by kernel_rfl) ⟨rfl, rfl, trivial⟩).ht ?_
        refine HT.loopE (s := (q9, q11)) (fun (s13 : Int × List Nat) => ⟨[(7, .one (.all 0)), (8, .one (.dat (.int .i64) s13.1))], [(0, .seq (.flt .f32) s13.2)], 1⟩) (fun (r15 : List Nat) => (.exit 0, ⟨[(7, .one (.all 0))], [(0, .seq (.flt .f32) r15)], 1⟩)) hL21 ?_ (fun s13 x16 hx17 hk18 => ?_)
        · refine (qBlockX (qThen ?_))
          refine HT.reg1 [4] [⟨none, .no⟩, ⟨none, .no⟩] ⟨[(4, .one (.all 0))], [(0, .seq (.flt .f32) r14)], 1⟩ hP hN (by kernel_rfl) allNil ?_
          have hr := of_some hr
          subst hr
          exact HT.ret ⟨[.one (.all 0)], [0], [], by kernel_rfl, by kernel_rfl, rfl, by kernel_rfl, by kernel_rfl, trivial⟩
        · refine HT.seq ?_
          refine HT.reg1 [7, 8, 37] [⟨none, .no⟩, ⟨none, .no⟩, ⟨none, .no⟩, ⟨none, .no⟩] ⟨[(7, .one (.all 0)), (8, .one (.dat (.int .i64) s13.1)), (37, .one (.dat .bool (decide (s13.1 < (lenI s13.2)))))], [(0, .seq (.flt .f32) s13.2)], 1⟩ hP hN (by kernel_rfl) allNil ?_
          rcases of_bif hx17 with ⟨hb19, hx17⟩ | ⟨hb19, hx17⟩
          · refine HT.cond1 rfl hb19 ?_
            refine HT.skip (qThen ?_)
            refine HT.block ?_
            obtain ⟨hg20, hx17⟩ := of_guard hx17
            have hx17 := of_some hx17
            subst hx17
            refine drawS (h := 8) (hrs := [⟨⟨none, .no⟩, []⟩, ⟨⟨none, .no⟩, []⟩, ⟨⟨none, .no⟩, []⟩, ⟨⟨none, .no⟩, [1, 2]⟩, ⟨⟨none, .no⟩, []⟩, ⟨⟨none, .no⟩, []⟩, ⟨⟨none, .no⟩, [4, 5]⟩, ⟨⟨none, .no⟩, [1, 2, 3, 4, 5, 6]⟩]) (tds := [[0, 1, 2, 3, 4, 5, 6, 7], [0, 1, 2, 3, 4, 5, 6, 7, 8]]) (rs := [⟨none, .no⟩, ⟨none, .no⟩]) (st' := ⟨[(8, .one (.dat (.int .i64) (wadd .i64 s13.1 ((Nat.min (List.length (List.take (Int.toNat s13.1) (List.drop 0 s13.2))) (Int.toNat (lenI s13.2) - Int.toNat s13.1) : Nat) : Int)))), (46, .one (.dat (.int .i64) (wadd .i64 s13.1 ((Nat.min (List.length (List.take (Int.toNat s13.1) (List.drop 0 s13.2))) (Int.toNat (lenI s13.2) - Int.toNat s13.1) : Nat) : Int)))), (45, .one (.dat (.int .i64) ((Nat.min (List.length (List.take (Int.toNat s13.1) (List.drop 0 s13.2))) (Int.toNat (lenI s13.2) - Int.toNat s13.1) : Nat) : Int))), (44, .one (.ref 0 0 (Int.toNat s13.1))), (43, .one (.dat (.int .i64) s13.1)), (42, .one (.all 0)), (41, .one (.ref 0 (Int.toNat s13.1) (Int.toNat (lenI s13.2) - Int.toNat s13.1))), (40, .one (.dat (.int .i64) s13.1)), (39, .one (.all 0)), (38, .one (.dat (.int .i64) s13.1)), (7, .one (.all 0)), (8, .one (.dat (.int .i64) s13.1)), (37, .one (.dat .bool (decide (s13.1 < (lenI s13.2)))))], [(0, .seq (.flt .f32) (List.take (Int.toNat s13.1) s13.2 ++ List.take (Nat.min (List.length (List.take (Int.toNat s13.1) (List.drop 0 s13.2))) (Int.toNat (lenI s13.2) - Int.toNat s13.1)) (List.take (Int.toNat s13.1) (List.drop 0 s13.2)) ++ List.drop ((Int.toNat s13.1) + Nat.min (List.length (List.take (Int.toNat s13.1) (List.drop 0 s13.2))) (Int.toNat (lenI s13.2) - Int.toNat s13.1)) s13.2)), (0, .seq (.flt .f32) s13.2)], 1⟩) hP hN (by kernel_rfl) (by kernel_rfl) (allCons (show (0 : Int) ≤ s13.1 ∧ s13.1 ≤ lenI s13.2 ∧ lenI s13.2 ≤ lenI s13.2 from ⟨hg20.1, hg20.2, Int.le_refl _⟩) (allCons (show (0 : Int) ≤ 0 ∧ (0 : Int) ≤ s13.1 ∧ s13.1 ≤ lenI s13.2 from ⟨Int.le_refl _, hg20.1, hg20.2⟩) allNil)) (qBlock (qLoopN ⟨((wadd .i64 s13.1 ((Nat.min (List.length (List.take (Int.toNat s13.1) (List.drop 0 s13.2))) (Int.toNat (lenI s13.2) - Int.toNat s13.1) : Nat) : Int)), (List.take (Int.toNat s13.1) s13.2 ++ List.take (Nat.min (List.length (List.take (Int.toNat s13.1) (List.drop 0 s13.2))) (Int.toNat (lenI s13.2) - Int.toNat s13.1)) (List.take (Int.toNat s13.1) (List.drop 0 s13.2)) ++ List.drop ((Int.toNat s13.1) + Nat.min (List.length (List.take (Int.toNat s13.1) (List.drop 0 s13.2))) (Int.toNat (lenI s13.2) - Int.toNat s13.1)) s13.2)), rfl, Le.cv (s := ⟨[(0, 0)], [], [], false⟩) (own := []) (ps := [(wadd .i64 s13.1 ((Nat.min (List.length (List.take (Int.toNat s13.1) (List.drop 0 s13.2))) (Int.toNat (lenI s13.2) - Int.toNat s13.1) : Nat) : Int)) = (wadd .i64 s13.1 ((Nat.min (List.length (List.take (Int.toNat s13.1) (List.drop 0 s13.2))) (Int.toNat (lenI s13.2) - Int.toNat s13.1) : Nat) : Int)), (List.take (Int.toNat s13.1) s13.2 ++ List.take (Nat.min (List.length (List.take (Int.toNat s13.1) (List.drop 0 s13.2))) (Int.toNat (lenI s13.2) - Int.toNat s13.1)) (List.take (Int.toNat s13.1) (List.drop 0 s13.2)) ++ List.drop ((Int.toNat s13.1) + Nat.min (List.length (List.take (Int.toNat s13.1) (List.drop 0 s13.2))) (Int.toNat (lenI s13.2) - Int.toNat s13.1)) s13.2) = (List.take (Int.toNat s13.1) s13.2 ++ List.take (Nat.min (List.length (List.take (Int.toNat s13.1) (List.drop 0 s13.2))) (Int.toNat (lenI s13.2) - Int.toNat s13.1)) (List.take (Int.toNat s13.1) (List.drop 0 s13.2)) ++ List.drop ((Int.toNat s13.1) + Nat.min (List.length (List.take (Int.toNat s13.1) (List.drop 0 s13.2))) (Int.toNat (lenI s13.2) - Int.toNat s13.1)) s13.2)]) (st' := ⟨[(7, .one (.all 0)), (8, .one (.dat (.int .i64) (wadd .i64 s13.1 ((Nat.min (List.length (List.take (Int.toNat s13.1) (List.drop 0 s13.2))) (Int.toNat (lenI s13.2) - Int.toNat s13.1) : Nat) : Int))))], [(0, .seq (.flt .f32) (List.take (Int.toNat s13.1) s13.2 ++ List.take (Nat.min (List.length (List.take (Int.toNat s13.1) (List.drop 0 s13.2))) (Int.toNat (lenI s13.2) - Int.toNat s13.1)) (List.take (Int.toNat s13.1) (List.drop 0 s13.2)) ++ List.drop ((Int.toNat s13.1) + Nat.min (List.length (List.take (Int.toNat s13.1) (List.drop 0 s13.2))) (Int.toNat (lenI s13.2) - Int.toNat s13.1)) s13.2))], 1⟩) hO (fun h => by cases h) (by kernel_rfl) ⟨rfl, rfl, trivial⟩⟩))
          · refine HT.cond0 rfl hb19 ?_
            have hx17 := of_some hx17
            subst hx17
            refine (Le.cv (s := ⟨[(0, 0)], [], [], false⟩) (own := []) (ps := [s13.2 = s13.2]) (st' := ⟨[(7, .one (.all 0))], [(0, .seq (.flt .f32) s13.2)], 1⟩) hO (fun h => by cases h) (by kernel_rfl) ⟨rfl, trivial⟩).ht ?_
            exact HT.exit (qThenE (qLoopE (hk18 s13.2 rfl)))
    · rcases of_bif hT6 with ⟨hb22, hT6⟩ | ⟨hb22, hT6⟩
      · refine HT.reg (rs := [⟨none, .no⟩, ⟨none, .no⟩, ⟨none, .no⟩, ⟨some true, .no⟩, ⟨some true, .no⟩, ⟨none, .tv true⟩]) (st' := ⟨[(26, .one (.dat .bool true)), (25, .und), (24, .und), (23, .one (.dat .bool (decide (y2.1 > (0 : Int))))), (22, .one (.dat .bool (decide (y2.1 > (0 : Int))))), (21, .one (.dat (.int .u64) y2.1)), (0, .one (.dat (.sl (.flt .f32)) a0)), (5, .one (.dat (.int .u64) y2.1)), (6, .one (.dat (.int .u64) y2.2))], [], 0⟩) hP hN (by kernel_rfl) (allCons hb22 (allCons hb22 (allCons hb22 allNil))) (qThen ?_)
        exact (Le.cv (s := ⟨[], [], [], false⟩) (own := []) (ps := [a0 = a0, y2.2 = y2.2, true = true]) (st' := ⟨[(0, .one (.dat (.sl (.flt .f32)) a0)), (6, .one (.dat (.int .u64) y2.2)), (26, .one (.dat .bool true))], [], 0⟩) hO (fun h => by cases h) (by kernel_rfl) ⟨rfl, rfl, rfl, trivial⟩).ht (cont true (of_some hT6))
      · refine HT.reg (rs := [⟨none, .no⟩, ⟨none, .no⟩, ⟨none, .no⟩, ⟨some false, .no⟩, ⟨some false, .no⟩, ⟨none, .tv false⟩]) (st' := ⟨[(26, .one (.dat .bool (decide (y2.2 > (9223372036854775807 : Int))))), (25, .one (.dat .bool (decide (y2.2 > (9223372036854775807 : Int))))), (24, .one (.dat (.int .u64) y2.2)), (23, .one (.dat .bool (decide (y2.1 > (0 : Int))))), (22, .one (.dat .bool (decide (y2.1 > (0 : Int))))), (21, .one (.dat (.int .u64) y2.1)), (0, .one (.dat (.sl (.flt .f32)) a0)), (5, .one (.dat (.int .u64) y2.1)), (6, .one (.dat (.int .u64) y2.2))], [], 0⟩) hP hN (by kernel_rfl) (allCons hb22 (allCons hb22 (allCons hb22 allNil))) (qThen ?_)
        exact (Le.cv (s := ⟨[], [], [], false⟩) (own := []) (ps := [a0 = a0, y2.2 = y2.2, (decide (y2.2 > (9223372036854775807 : Int))) = (decide (y2.2 > (9223372036854775807 : Int)))]) (st' := ⟨[(0, .one (.dat (.sl (.flt .f32)) a0)), (6, .one (.dat (.int .u64) y2.2)), (26, .one (.dat .bool (decide (y2.2 > (9223372036854775807 : Int)))))], [], 0⟩) hO (fun h => by cases h) (by kernel_rfl) ⟨rfl, rfl, rfl, trivial⟩).ht (cont (decide (y2.2 > (9223372036854775807 : Int))) (of_some hT6))

noncomputable def impl_Model_show (a0 : Int × Int × List Nat × List Nat × List Nat) (a1 : Int) (a2 : Int) : Option (Nat) :=
  guardP ((0 : Int) ≤ (wadd .i64 (wmul .i64 a1 a0.2.1) a2) ∧ (wadd .i64 (wmul .i64 a1 a0.2.1) a2) < lenI a0.2.2.2.2) (
    some (List.getD a0.2.2.2.2 (Int.toNat (wadd .i64 (wmul .i64 a1 a0.2.1) a2)) (0 : Nat)))

theorem f83_ok {a0 : Int × Int × List Nat × List Nat × List Nat} {a1 : Int} {a2 : Int} {r : Nat} (hr : impl_Model_show a0 a1 a2 = some r) : CallOK Try.prog 83 [.imm (.st (.pair (.int .i64) (.pair (.int .i64) (.pair (.sl (.flt .f32)) (.pair (.sl (.flt .f32)) (.sl (.flt .f32))))))) a0, .imm (.int .i64) a1, .imm (.int .i64) a2] [⟨false, (.flt .f32), r⟩] [] := by
  unfold impl_Model_show at hr
  refine CallOK.of_body (ts := [(false, (.flt .f32))]) Try.func83 rfl (by kernel_rfl) (Nat.le_of_ble_eq_true (by kernel_rfl)) fun cx hP hN hO hF => ?_
  have hO : cx.own.map Prod.fst = [] := hO
  have hF := hF rfl
  show HT cx ⟨[(0, .agg [.dat (.int .i64) a0.1, .dat (.int .i64) a0.2.1, .dat (.sl (.flt .f32)) a0.2.2.1, .dat (.sl (.flt .f32)) a0.2.2.2.1, .dat (.sl (.flt .f32)) a0.2.2.2.2]), (1, .one (.dat (.int .i64) a1)), (2, .one (.dat (.int .i64) a2))], [], 0⟩ _ _
  refine HT.reg1 [1, 2, 3] [⟨none, .no⟩, ⟨none, .no⟩] ⟨[(1, .one (.dat (.int .i64) a1)), (2, .one (.dat (.int .i64) a2)), (3, .one (.ptr 0 0))], [(0, .box [.dat (.int .i64) a0.1, .dat (.int .i64) a0.2.1, .dat (.sl (.flt .f32)) a0.2.2.1, .dat (.sl (.flt .f32)) a0.2.2.2.1, .dat (.sl (.flt .f32)) a0.2.2.2.2])], 1⟩ hP hN (by kernel_rfl) allNil ?_
  obtain ⟨hg1, hr⟩ := of_guard hr
  refine HT.reg1 [6] [⟨none, .no⟩, ⟨none, .no⟩, ⟨none, .no⟩, ⟨none, .no⟩, ⟨none, .no⟩, ⟨none, .no⟩, ⟨none, .no⟩, ⟨none, .no⟩, ⟨none, .no⟩, ⟨none, .no⟩, ⟨none, .no⟩] ⟨[(6, .one (.dat (.flt .f32) (List.getD a0.2.2.2.2 (Int.toNat (wadd .i64 (wmul .i64 a1 a0.2.1) a2)) (0 : Nat))))], [(0, .box [.dat (.int .i64) a0.1, .dat (.int .i64) a0.2.1, .dat (.sl (.flt .f32)) a0.2.2.1, .dat (.sl (.flt .f32)) a0.2.2.2.1, .dat (.sl (.flt .f32)) a0.2.2.2.2])], 1⟩ hP hN (by kernel_rfl) (allCons hg1 allNil) ?_
  have hr := of_some hr
  subst hr
  exact HT.ret ⟨[.one (.dat (.flt .f32) (List.getD a0.2.2.2.2 (Int.toNat (wadd .i64 (wmul .i64 a1 a0.2.1) a2)) (0 : Nat)))], [], [], by kernel_rfl, by kernel_rfl, rfl, by kernel_rfl, by kernel_rfl, trivial⟩

noncomputable def impl_Model_step (a0 : Int × Int × List Nat × List Nat × List Nat) (a1 : Int) (a2 : Int) : Option (Nat) :=
  guardP ((0 : Int) ≤ (wadd .i64 (wmul .i64 a1 a0.1) a2) ∧ (wadd .i64 (wmul .i64 a1 a0.1) a2) < lenI a0.2.2.2.1) (
    some (List.getD a0.2.2.2.1 (Int.toNat (wadd .i64 (wmul .i64 a1 a0.1) a2)) (0 : Nat)))

theorem f84_ok {a0 : Int × Int × List Nat × List Nat × List Nat} {a1 : Int} {a2 : Int} {r : Nat} (hr : impl_Model_step a0 a1 a2 = some r) : CallOK Try.prog 84 [.imm (.st (.pair (.int .i64) (.pair (.int .i64) (.pair (.sl (.flt .f32)) (.pair (.sl (.flt .f32)) (.sl (.flt .f32))))))) a0, .imm (.int .i64) a1, .imm (.int .i64) a2] [⟨false, (.flt .f32), r⟩] [] := by
  unfold impl_Model_step at hr
  refine CallOK.of_body (ts := [(false, (.flt .f32))]) Try.func84 rfl (by kernel_rfl) (Nat.le_of_ble_eq_true (by kernel_rfl)) fun cx hP hN hO hF => ?_
  have hO : cx.own.map Prod.fst = [] := hO
  have hF := hF rfl
  show HT cx ⟨[(0, .agg [.dat (.int .i64) a0.1, .dat (.int .i64) a0.2.1, .dat (.sl (.flt .f32)) a0.2.2.1, .dat (.sl (.flt .f32)) a0.2.2.2.1, .dat (.sl (.flt .f32)) a0.2.2.2.2]), (1, .one (.dat (.int .i64) a1)), (2, .one (.dat (.int .i64) a2))], [], 0⟩ _ _
  refine HT.reg1 [1, 2, 3] [⟨none, .no⟩, ⟨none, .no⟩] ⟨[(1, .one (.dat (.int .i64) a1)), (2, .one (.dat (.int .i64) a2)), (3, .one (.ptr 0 0))], [(0, .box [.dat (.int .i64) a0.1, .dat (.int .i64) a0.2.1, .dat (.sl (.flt .f32)) a0.2.2.1, .dat (.sl (.flt .f32)) a0.2.2.2.1, .dat (.sl (.flt .f32)) a0.2.2.2.2])], 1⟩ hP hN (by kernel_rfl) allNil ?_
  obtain ⟨hg1, hr⟩ := of_guard hr
  refine HT.reg1 [6] [⟨none, .no⟩, ⟨none, .no⟩, ⟨none, .no⟩, ⟨none, .no⟩, ⟨none, .no⟩, ⟨none, .no⟩, ⟨none, .no⟩, ⟨none, .no⟩, ⟨none, .no⟩, ⟨none, .no⟩, ⟨none, .no⟩] ⟨[(6, .one (.dat (.flt .f32) (List.getD a0.2.2.2.1 (Int.toNat (wadd .i64 (wmul .i64 a1 a0.1) a2)) (0 : Nat))))], [(0, .box [.dat (.int .i64) a0.1, .dat (.int .i64) a0.2.1, .dat (.sl (.flt .f32)) a0.2.2.1, .dat (.sl (.flt .f32)) a0.2.2.2.1, .dat (.sl (.flt .f32)) a0.2.2.2.2])], 1⟩ hP hN (by kernel_rfl) (allCons hg1 allNil) ?_
  have hr := of_some hr
  subst hr
  exact HT.ret ⟨[.one (.dat (.flt .f32) (List.getD a0.2.2.2.1 (Int.toNat (wadd .i64 (wmul .i64 a1 a0.1) a2)) (0 : Nat)))], [], [], by kernel_rfl, by kernel_rfl, rfl, by kernel_rfl, by kernel_rfl, trivial⟩

noncomputable def impl_Model_backward_B1 (a0 : Int × Int × List Nat × List Nat × List Nat) (a1 : List Int) (s7 : Int × List (List Nat)) (s15 : Int × List Nat) (s23 : Int × List Nat) : Option ((Int × List Nat) ⊕ (List Nat)) :=
  bif (decide (s23.1 < a0.1)) then
    guardP ((0 : Int) ≤ s15.1 ∧ s15.1 < lenI s23.2) (
      guardP ((0 : Int) ≤ s7.1 ∧ s7.1 < lenI a1) (
        (impl_Model_show (a0.1, a0.2.1, a0.2.2.1, a0.2.2.2.1, a0.2.2.2.2) s15.1 (List.getD a1 (Int.toNat s7.1) (0 : Int))).bind fun y32 =>
        (impl_Model_step (a0.1, a0.2.1, a0.2.2.1, a0.2.2.2.1, a0.2.2.2.2) s15.1 s23.1).bind fun y34 =>
        guardP ((0 : Int) ≤ (wadd .i64 s7.1 (1 : Int)) ∧ (wadd .i64 s7.1 (1 : Int)) < lenI s7.2) (
          guardP ((0 : Int) ≤ s23.1 ∧ s23.1 < lenI (List.getD s7.2 (Int.toNat (wadd .i64 s7.1 (1 : Int))) ([] : List Nat))) (
            some (.inl ((wadd .i64 s23.1 (1 : Int)), (List.set s23.2 (Int.toNat s15.1) (fop .add .f32 (List.getD s23.2 (Int.toNat s15.1) (0 : Nat)) (fop .mul .f32 (fop .mul .f32 y32 y34) (List.getD (List.getD s7.2 (Int.toNat (wadd .i64 s7.1 (1 : Int))) ([] : List Nat)) (Int.toNat s23.1) (0 : Nat)))))))))))
  else
    some (.inr s23.2)

noncomputable def impl_Model_backward_B2 (a0 : Int × Int × List Nat × List Nat × List Nat) (a1 : List Int) (s7 : Int × List (List Nat)) (s15 : Int × List Nat) : Option ((Int × List Nat) ⊕ (List Nat)) :=
  bif (decide (s15.1 < a0.1)) then
    (rounds (impl_Model_backward_B1 a0 a1 s7 s15) ((0 : Int), s15.2)).bind fun r25 =>
    some (.inl ((wadd .i64 s15.1 (1 : Int)), r25))
  else
    some (.inr s15.2)

noncomputable def impl_Model_backward_B3 (a0 : Int × Int × List Nat × List Nat × List Nat) (a1 : List Int) (s7 : Int × List (List Nat)) : Option ((Int × List (List Nat)) ⊕ (List (List Nat))) :=
  bif (decide (s7.1 ≥ (0 : Int))) then
    guardP ((0 : Int) ≤ a0.1 ∧ a0.1 ≤ 4294967296) (
      (rounds (impl_Model_backward_B2 a0 a1 s7) ((0 : Int), (List.replicate (Int.toNat a0.1) (0 : Nat)))).bind fun r17 =>
      guardP ((0 : Int) ≤ s7.1 ∧ s7.1 < lenI s7.2) (
        some (.inl ((wsub .i64 s7.1 (1 : Int)), (List.set s7.2 (Int.toNat s7.1) r17)))))
  else
    some (.inr s7.2)

noncomputable def impl_Model_backward (a0 : Int × Int × List Nat × List Nat × List Nat) (a1 : List Int) : Option (List (List Nat)) :=
  guardP ((0 : Int) ≤ (wadd .i64 (lenI a1) (1 : Int)) ∧ (wadd .i64 (lenI a1) (1 : Int)) ≤ 4294967296) (
    (slices_Repeat___float32_float32 ([(1065353216 : Nat)] : List Nat) a0.1).bind fun y2 =>
    guardP ((0 : Int) ≤ (lenI a1) ∧ (lenI a1) < lenI (List.replicate (Int.toNat (wadd .i64 (lenI a1) (1 : Int))) ([] : List Nat))) (
      (some (List.set (List.replicate (Int.toNat (wadd .i64 (lenI a1) (1 : Int))) ([] : List Nat)) (Int.toNat (lenI a1)) y2)).bind fun q5 =>
      (rounds (impl_Model_backward_B3 a0 a1) ((wsub .i64 (lenI a1) (1 : Int)), q5)).bind fun r9 =>
      some r9))

theorem f50_ok {a0 : Int × Int × List Nat × List Nat × List Nat} {a1 : List Int} {r : List (List Nat)} (hr : impl_Model_backward a0 a1 = some r) : CallOK Try.prog 50 [.imm (.st (.pair (.int .i64) (.pair (.int .i64) (.pair (.sl (.flt .f32)) (.pair (.sl (.flt .f32)) (.sl (.flt .f32))))))) a0, .imm (.sl (.int .i64)) a1] [⟨false, (.sl (.sl (.flt .f32))), r⟩] [] := by
  unfold impl_Model_backward at hr
  refine CallOK.of_body (ts := [(false, (.sl (.sl (.flt .f32))))]) Try.func50 rfl (by kernel_rfl) (Nat.le_of_ble_eq_true (by kernel_rfl)) fun cx hP hN hO hF => ?_
  have hO : cx.own.map Prod.fst = [] := hO
  have hF := hF rfl
  show HT cx ⟨[(0, .agg [.dat (.int .i64) a0.1, .dat (.int .i64) a0.2.1, .dat (.sl (.flt .f32)) a0.2.2.1, .dat (.sl (.flt .f32)) a0.2.2.2.1, .dat (.sl (.flt .f32)) a0.2.2.2.2]), (1, .one (.dat (.sl (.int .i64)) a1))], [], 0⟩ _ _
  refine HT.reg1 [1, 2] [⟨none, .no⟩, ⟨none, .no⟩] ⟨[(1, .one (.dat (.sl (.int .i64)) a1)), (2, .one (.ptr 0 0))], [(0, .box [.dat (.int .i64) a0.1, .dat (.int .i64) a0.2.1, .dat (.sl (.flt .f32)) a0.2.2.1, .dat (.sl (.flt .f32)) a0.2.2.2.1, .dat (.sl (.flt .f32)) a0.2.2.2.2])], 1⟩ hP hN (by kernel_rfl) allNil ?_
  refine HT.reg1 [1, 2, 5] [⟨none, .no⟩, ⟨none, .no⟩, ⟨none, .no⟩] ⟨[(1, .one (.dat (.sl (.int .i64)) a1)), (2, .one (.ptr 0 0)), (5, .one (.dat (.int .i64) (lenI a1)))], [(0, .box [.dat (.int .i64) a0.1, .dat (.int .i64) a0.2.1, .dat (.sl (.flt .f32)) a0.2.2.1, .dat (.sl (.flt .f32)) a0.2.2.2.1, .dat (.sl (.flt .f32)) a0.2.2.2.2])], 1⟩ hP hN (by kernel_rfl) allNil ?_
  obtain ⟨hg1, hr⟩ := of_guard hr
  refine HT.reg1 [1, 2, 5, 6] [⟨none, .no⟩, ⟨none, .no⟩, ⟨none, .ty (.sl (.flt .f32))⟩, ⟨none, .no⟩] ⟨[(1, .one (.dat (.sl (.int .i64)) a1)), (2, .one (.ptr 0 0)), (5, .one (.dat (.int .i64) (lenI a1))), (6, .one (.all 1))], [(1, .seq (.sl (.flt .f32)) (List.replicate (Int.toNat (wadd .i64 (lenI a1) (1 : Int))) ([] : List Nat))), (0, .box [.dat (.int .i64) a0.1, .dat (.int .i64) a0.2.1, .dat (.sl (.flt .f32)) a0.2.2.1, .dat (.sl (.flt .f32)) a0.2.2.2.1, .dat (.sl (.flt .f32)) a0.2.2.2.2])], 2⟩ hP hN (by kernel_rfl) (allCons (show (0 : Int) ≤ (wadd .i64 (lenI a1) (1 : Int)) ∧ (wadd .i64 (lenI a1) (1 : Int)) ≤ (wadd .i64 (lenI a1) (1 : Int)) ∧ (wadd .i64 (lenI a1) (1 : Int)) ≤ 4294967296 from ⟨hg1.1, Int.le_refl _, hg1.2⟩) allNil) ?_
  obtain ⟨y2, hc3, hr⟩ := of_bind hr
  obtain ⟨hg4, hr⟩ := of_guard hr
  refine HT.reg1 [1, 2, 5, 6] [⟨none, .no⟩, ⟨none, .no⟩, ⟨none, .tyD (.flt .f32)⟩, ⟨none, .no⟩, ⟨none, .no⟩, ⟨none, .call [.imm (.sl (.flt .f32)), .imm (.int .i64)] [⟨false, (.sl (.flt .f32)), y2⟩] []⟩, ⟨none, .no⟩, ⟨none, .no⟩] ⟨[(1, .one (.dat (.sl (.int .i64)) a1)), (2, .one (.ptr 0 0)), (5, .one (.dat (.int .i64) (lenI a1))), (6, .one (.all 1))], [(1, .seq (.sl (.flt .f32)) (List.set (List.replicate (Int.toNat (wadd .i64 (lenI a1) (1 : Int))) ([] : List Nat)) (Int.toNat (lenI a1)) y2)), (1, .seq (.sl (.flt .f32)) (List.replicate (Int.toNat (wadd .i64 (lenI a1) (1 : Int))) ([] : List Nat))), (0, .box [.dat (.int .i64) a0.1, .dat (.int .i64) a0.2.1, .dat (.sl (.flt .f32)) a0.2.2.1, .dat (.sl (.flt .f32)) a0.2.2.2.1, .dat (.sl (.flt .f32)) a0.2.2.2.2])], 2⟩ hP hN (by kernel_rfl) (allCons (CallOK.frz [true] rfl (f82_ok hc3)) (allCons hg4 (allCons (natLt hg4) allNil))) ?_
  obtain ⟨q5, hq6, hr⟩ := of_bind hr
  have hq6 := of_some2 hq6
  refine (Le.cv (s := ⟨[(1, 1), (0, 0)], [], [], false⟩) (own := []) (ps := [a1 = a1, (lenI a1) = (lenI a1), q5 = (List.set (List.replicate (Int.toNat (wadd .i64 (lenI a1) (1 : Int))) ([] : List Nat)) (Int.toNat (lenI a1)) y2), a0.1 = a0.1, a0.2.1 = a0.2.1, a0.2.2.1 = a0.2.2.1, a0.2.2.2.1 = a0.2.2.2.1, a0.2.2.2.2 = a0.2.2.2.2]) (st' := ⟨[(1, .one (.dat (.sl (.int .i64)) a1)), (2, .one (.ptr 0 0)), (5, .one (.dat (.int .i64) (lenI a1))), (6, .one (.all 1))], [(1, .seq (.sl (.flt .f32)) q5), (0, .box [.dat (.int .i64) a0.1, .dat (.int .i64) a0.2.1, .dat (.sl (.flt .f32)) a0.2.2.1, .dat (.sl (.flt .f32)) a0.2.2.2.1, .dat (.sl (.flt .f32)) a0.2.2.2.2])], 2⟩) hO (fun h => by cases h) (by kernel_rfl) ⟨rfl, rfl, hq6, rfl, rfl, rfl, rfl, rfl, trivial⟩).ht ?_
  refine HT.seq ?_
  refine HT.reg1 [1, 2, 6, 7] [⟨none, .no⟩, ⟨none, .no⟩, ⟨none, .no⟩] ⟨[(1, .one (.dat (.sl (.int .i64)) a1)), (2, .one (.ptr 0 0)), (6, .one (.all 1)), (7, .one (.dat (.int .i64) (wsub .i64 (lenI a1) (1 : Int))))], [(1, .seq (.sl (.flt .f32)) q5), (0, .box [.dat (.int .i64) a0.1, .dat (.int .i64) a0.2.1, .dat (.sl (.flt .f32)) a0.2.2.1, .dat (.sl (.flt .f32)) a0.2.2.2.1, .dat (.sl (.flt .f32)) a0.2.2.2.2])], 2⟩ hP hN (by kernel_rfl) allNil ?_
  refine HT.block ?_
  obtain ⟨r8, hL40, hr⟩ := of_bind hr
  refine (Le.cv (s := ⟨[(0, 0), (1, 1)], [], [], false⟩) (own := []) (ps := [a1 = a1, (wsub .i64 (lenI a1) (1 : Int)) = (wsub .i64 (lenI a1) (1 : Int)), a0.1 = a0.1, a0.2.1 = a0.2.1, a0.2.2.1 = a0.2.2.1, a0.2.2.2.1 = a0.2.2.2.1, a0.2.2.2.2 = a0.2.2.2.2, q5 = q5]) (st' := ⟨[(1, .one (.dat (.sl (.int .i64)) a1)), (2, .one (.ptr 0 0)), (6, .one (.all 1)), (7, .one (.dat (.int .i64) (wsub .i64 (lenI a1) (1 : Int))))], [(0, .box [.dat (.int .i64) a0.1, .dat (.int .i64) a0.2.1, .dat (.sl (.flt .f32)) a0.2.2.1, .dat (.sl (.flt .f32)) a0.2.2.2.1, .dat (.sl (.flt .f32)) a0.2.2.2.2]), (1, .seq (.sl (.flt .f32)) q5)], 2⟩) hO (fun h => by cases h) (by kernel_rfl) ⟨rfl, rfl, rfl, rfl, rfl, rfl, rfl, rfl, trivial⟩).ht ?_
  refine HT.loopE (s := ((wsub .i64 (lenI a1) (1 : Int)), q5)) (fun (s7 : Int × List (List Nat)) => ⟨[(1, .one (.dat (.sl (.int .i64)) a1)), (2, .one (.ptr 0 0)), (6, .one (.all 1)), (7, .one (.dat (.int .i64) s7.1))], [(0, .box [.dat (.int .i64) a0.1, .dat (.int .i64) a0.2.1, .dat (.sl (.flt .f32)) a0.2.2.1, .dat (.sl (.flt .f32)) a0.2.2.2.1, .dat (.sl (.flt .f32)) a0.2.2.2.2]), (1, .seq (.sl (.flt .f32)) s7.2)], 2⟩) (fun (r9 : List (List Nat)) => (.exit 0, ⟨[(6, .one (.all 0))], [(0, .seq (.sl (.flt .f32)) r9)], 1⟩)) hL40 ?_ (fun s7 x10 hx11 hk12 => ?_)
  · refine (qBlockX (qThen ?_))
    refine HT.reg1 [4] [⟨none, .no⟩, ⟨none, .no⟩] ⟨[(4, .one (.all 0))], [(0, .seq (.sl (.flt .f32)) r8)], 1⟩ hP hN (by kernel_rfl) allNil ?_
    have hr := of_some hr
    subst hr
    refine (Le.cv (s := ⟨[], [], [], true⟩) (own := []) (ps := [r8 = r8]) (st' := ⟨[(4, .one (.dat (.sl (.sl (.flt .f32))) r8))], [], 1⟩) hO (fun _ => hF) (by kernel_rfl) ⟨rfl, trivial⟩).ht ?_
    exact HT.ret ⟨[.one (.dat (.sl (.sl (.flt .f32))) r8)], [], [], by kernel_rfl, by kernel_rfl, rfl, by kernel_rfl, by kernel_rfl, trivial⟩
  · refine HT.seq ?_
    refine HT.reg1 [1, 2, 6, 7, 26] [⟨none, .no⟩, ⟨none, .no⟩] ⟨[(1, .one (.dat (.sl (.int .i64)) a1)), (2, .one (.ptr 0 0)), (6, .one (.all 1)), (7, .one (.dat (.int .i64) s7.1)), (26, .one (.dat .bool (decide (s7.1 ≥ (0 : Int)))))], [(0, .box [.dat (.int .i64) a0.1, .dat (.int .i64) a0.2.1, .dat (.sl (.flt .f32)) a0.2.2.1, .dat (.sl (.flt .f32)) a0.2.2.2.1, .dat (.sl (.flt .f32)) a0.2.2.2.2]), (1, .seq (.sl (.flt .f32)) s7.2)], 2⟩ hP hN (by kernel_rfl) allNil ?_
    rcases of_bif hx11 with ⟨hb13, hx11⟩ | ⟨hb13, hx11⟩
    · refine HT.cond1 rfl hb13 ?_
      refine HT.skip (qThen ?_)
      refine HT.seq ?_
      refine HT.block ?_
      obtain ⟨hg14, hx11⟩ := of_guard hx11
      refine HT.reg1 [1, 2, 6, 7, 8] [⟨none, .no⟩, ⟨none, .no⟩, ⟨none, .ty (.flt .f32)⟩, ⟨none, .no⟩] ⟨[(1, .one (.dat (.sl (.int .i64)) a1)), (2, .one (.ptr 0 0)), (6, .one (.all 1)), (7, .one (.dat (.int .i64) s7.1)), (8, .one (.all 2))], [(2, .seq (.flt .f32) (List.replicate (Int.toNat a0.1) (0 : Nat))), (0, .box [.dat (.int .i64) a0.1, .dat (.int .i64) a0.2.1, .dat (.sl (.flt .f32)) a0.2.2.1, .dat (.sl (.flt .f32)) a0.2.2.2.1, .dat (.sl (.flt .f32)) a0.2.2.2.2]), (1, .seq (.sl (.flt .f32)) s7.2)], 3⟩ hP hN (by kernel_rfl) (allCons (show (0 : Int) ≤ a0.1 ∧ a0.1 ≤ a0.1 ∧ a0.1 ≤ 4294967296 from ⟨hg14.1, Int.le_refl _, hg14.2⟩) allNil) ?_
      refine HT.seq ?_
      refine HT.reg1 [1, 2, 6, 7, 8, 33, 34] [⟨none, .no⟩, ⟨none, .no⟩, ⟨none, .no⟩] ⟨[(1, .one (.dat (.sl (.int .i64)) a1)), (2, .one (.ptr 0 0)), (6, .one (.all 1)), (7, .one (.dat (.int .i64) s7.1)), (8, .one (.all 2)), (33, .one (.dat (.int .i64) a0.1)), (34, .one (.dat (.int .i64) (0 : Int)))], [(2, .seq (.flt .f32) (List.replicate (Int.toNat a0.1) (0 : Nat))), (0, .box [.dat (.int .i64) a0.1, .dat (.int .i64) a0.2.1, .dat (.sl (.flt .f32)) a0.2.2.1, .dat (.sl (.flt .f32)) a0.2.2.2.1, .dat (.sl (.flt .f32)) a0.2.2.2.2]), (1, .seq (.sl (.flt .f32)) s7.2)], 3⟩ hP hN (by kernel_rfl) allNil ?_
      refine HT.block ?_
      obtain ⟨r16, hL39, hx11⟩ := of_bind hx11
      refine (Le.cv (s := ⟨[(0, 0), (1, 1), (2, 2)], [], [], false⟩) (own := []) (ps := [a1 = a1, s7.1 = s7.1, a0.1 = a0.1, (0 : Int) = (0 : Int), a0.1 = a0.1, a0.2.1 = a0.2.1, a0.2.2.1 = a0.2.2.1, a0.2.2.2.1 = a0.2.2.2.1, a0.2.2.2.2 = a0.2.2.2.2, s7.2 = s7.2, (List.replicate (Int.toNat a0.1) (0 : Nat)) = (List.replicate (Int.toNat a0.1) (0 : Nat))]) (st' := ⟨[(1, .one (.dat (.sl (.int .i64)) a1)), (2, .one (.ptr 0 0)), (6, .one (.all 1)), (7, .one (.dat (.int .i64) s7.1)), (8, .one (.all 2)), (33, .one (.dat (.int .i64) a0.1)), (34, .one (.dat (.int .i64) (0 : Int)))], [(0, .box [.dat (.int .i64) a0.1, .dat (.int .i64) a0.2.1, .dat (.sl (.flt .f32)) a0.2.2.1, .dat (.sl (.flt .f32)) a0.2.2.2.1, .dat (.sl (.flt .f32)) a0.2.2.2.2]), (1, .seq (.sl (.flt .f32)) s7.2), (2, .seq (.flt .f32) (List.replicate (Int.toNat a0.1) (0 : Nat)))], 3⟩) hO (fun h => by cases h) (by kernel_rfl) ⟨rfl, rfl, rfl, rfl, rfl, rfl, rfl, rfl, rfl, rfl, rfl, trivial⟩).ht ?_
      refine HT.loopE (s := ((0 : Int), (List.replicate (Int.toNat a0.1) (0 : Nat)))) (fun (s15 : Int × List Nat) => ⟨[(1, .one (.dat (.sl (.int .i64)) a1)), (2, .one (.ptr 0 0)), (6, .one (.all 1)), (7, .one (.dat (.int .i64) s7.1)), (8, .one (.all 2)), (33, .one (.dat (.int .i64) a0.1)), (34, .one (.dat (.int .i64) s15.1))], [(0, .box [.dat (.int .i64) a0.1, .dat (.int .i64) a0.2.1, .dat (.sl (.flt .f32)) a0.2.2.1, .dat (.sl (.flt .f32)) a0.2.2.2.1, .dat (.sl (.flt .f32)) a0.2.2.2.2]), (1, .seq (.sl (.flt .f32)) s7.2), (2, .seq (.flt .f32) s15.2)], 3⟩) (fun (r17 : List Nat) => (.exit 2, ⟨[(1, .one (.dat (.sl (.int .i64)) a1)), (2, .one (.ptr 0 0)), (6, .one (.all 1)), (7, .one (.dat (.int .i64) s7.1)), (8, .one (.all 2))], [(0, .box [.dat (.int .i64) a0.1, .dat (.int .i64) a0.2.1, .dat (.sl (.flt .f32)) a0.2.2.1, .dat (.sl (.flt .f32)) a0.2.2.2.1, .dat (.sl (.flt .f32)) a0.2.2.2.2]), (1, .seq (.sl (.flt .f32)) s7.2), (2, .seq (.flt .f32) r17)], 3⟩)) hL39 ?_ (fun s15 x19 hx20 hk21 => ?_)
      · refine (qBlockX (qThen ?_))
        refine (Le.cv (s := ⟨[(0, 0), (1, 1)], [], [], true⟩) (own := []) (ps := [a1 = a1, s7.1 = s7.1, r16 = r16, a0.1 = a0.1, a0.2.1 = a0.2.1, a0.2.2.1 = a0.2.2.1, a0.2.2.2.1 = a0.2.2.2.1, a0.2.2.2.2 = a0.2.2.2.2, s7.2 = s7.2]) (st' := ⟨[(1, .one (.dat (.sl (.int .i64)) a1)), (2, .one (.ptr 0 0)), (6, .one (.all 1)), (7, .one (.dat (.int .i64) s7.1)), (8, .one (.dat (.sl (.flt .f32)) r16))], [(0, .box [.dat (.int .i64) a0.1, .dat (.int .i64) a0.2.1, .dat (.sl (.flt .f32)) a0.2.2.1, .dat (.sl (.flt .f32)) a0.2.2.2.1, .dat (.sl (.flt .f32)) a0.2.2.2.2]), (1, .seq (.sl (.flt .f32)) s7.2)], 3⟩) hO (fun _ => hF) (by kernel_rfl) ⟨rfl, rfl, rfl, rfl, rfl, rfl, rfl, rfl, rfl, trivial⟩).ht ?_
        obtain ⟨hg18, hx11⟩ := of_guard hx11
        refine HT.reg (rs := [⟨none, .no⟩, ⟨none, .no⟩, ⟨none, .no⟩, ⟨none, .no⟩, ⟨none, .no⟩]) (st' := ⟨[(76, .one (.elp 1 (Int.toNat s7.1) 1 0)), (75, .one (.dat (.sl (.flt .f32)) r16)), (74, .one (.dat (.int .i64) s7.1)), (73, .one (.all 1)), (1, .one (.dat (.sl (.int .i64)) a1)), (2, .one (.ptr 0 0)), (6, .one (.all 1)), (7, .one (.dat (.int .i64) s7.1)), (8, .one (.dat (.sl (.flt .f32)) r16))], [(1, .seq (.sl (.flt .f32)) (List.set s7.2 (Int.toNat s7.1) r16)), (0, .box [.dat (.int .i64) a0.1, .dat (.int .i64) a0.2.1, .dat (.sl (.flt .f32)) a0.2.2.1, .dat (.sl (.flt .f32)) a0.2.2.2.1, .dat (.sl (.flt .f32)) a0.2.2.2.2]), (1, .seq (.sl (.flt .f32)) s7.2)], 3⟩) hP hN (by kernel_rfl) (allCons hg18 (allCons (natLt hg18) allNil)) (qBlock (qThen ?_))
        have hx11 := of_some hx11
        subst hx11
        refine HT.reg (rs := [⟨none, .no⟩, ⟨none, .no⟩, ⟨none, .no⟩]) (st' := ⟨[(7, .one (.dat (.int .i64) (wsub .i64 s7.1 (1 : Int)))), (28, .one (.dat (.int .i64) (wsub .i64 s7.1 (1 : Int)))), (27, .one (.dat (.int .i64) s7.1)), (76, .one (.elp 1 (Int.toNat s7.1) 1 0)), (75, .one (.dat (.sl (.flt .f32)) r16)), (74, .one (.dat (.int .i64) s7.1)), (73, .one (.all 1)), (1, .one (.dat (.sl (.int .i64)) a1)), (2, .one (.ptr 0 0)), (6, .one (.all 1)), (7, .one (.dat (.int .i64) s7.1)), (8, .one (.dat (.sl (.flt .f32)) r16))], [(1, .seq (.sl (.flt .f32)) (List.set s7.2 (Int.toNat s7.1) r16)), (0, .box [.dat (.int .i64) a0.1, .dat (.int .i64) a0.2.1, .dat (.sl (.flt .f32)) a0.2.2.1, .dat (.sl (.flt .f32)) a0.2.2.2.1, .dat (.sl (.flt .f32)) a0.2.2.2.2]), (1, .seq (.sl (.flt .f32)) s7.2)], 3⟩) hP hN (by kernel_rfl) allNil (qLoopN ⟨((wsub .i64 s7.1 (1 : Int)), (List.set s7.2 (Int.toNat s7.1) r16)), rfl, Le.cv (s := ⟨[(0, 0), (1, 1)], [], [], false⟩) (own := []) (ps := [a1 = a1, (wsub .i64 s7.1 (1 : Int)) = (wsub .i64 s7.1 (1 : Int)), a0.1 = a0.1, a0.2.1 = a0.2.1, a0.2.2.1 = a0.2.2.1, a0.2.2.2.1 = a0.2.2.2.1, a0.2.2.2.2 = a0.2.2.2.2, (List.set s7.2 (Int.toNat s7.1) r16) = (List.set s7.2 (Int.toNat s7.1) r16)]) (st' := ⟨[(1, .one (.dat (.sl (.int .i64)) a1)), (2, .one (.ptr 0 0)), (6, .one (.all 1)), (7, .one (.dat (.int .i64) (wsub .i64 s7.1 (1 : Int))))], [(0, .box [.dat (.int .i64) a0.1, .dat (.int .i64) a0.2.1, .dat (.sl (.flt .f32)) a0.2.2.1, .dat (.sl (.flt .f32)) a0.2.2.2.1, .dat (.sl (.flt .f32)) a0.2.2.2.2]), (1, .seq (.sl (.flt .f32)) (List.set s7.2 (Int.toNat s7.1) r16))], 2⟩) hO (fun h => by cases h) (by kernel_rfl) ⟨rfl, rfl, rfl, rfl, rfl, rfl, rfl, rfl, trivial⟩⟩)
      · refine HT.reg1 [1, 2, 6, 7, 8, 33, 34, 35] [⟨none, .no⟩] ⟨[(1, .one (.dat (.sl (.int .i64)) a1)), (2, .one (.ptr 0 0)), (6, .one (.all 1)), (7, .one (.dat (.int .i64) s7.1)), (8, .one (.all 2)), (33, .one (.dat (.int .i64) a0.1)), (34, .one (.dat (.int .i64) s15.1)), (35, .one (.dat .bool (decide (s15.1 < a0.1))))], [(0, .box [.dat (.int .i64) a0.1, .dat (.int .i64) a0.2.1, .dat (.sl (.flt .f32)) a0.2.2.1, .dat (.sl (.flt .f32)) a0.2.2.2.1, .dat (.sl (.flt .f32)) a0.2.2.2.2]), (1, .seq (.sl (.flt .f32)) s7.2), (2, .seq (.flt .f32) s15.2)], 3⟩ hP hN (by kernel_rfl) allNil ?_
        refine HT.seq ?_
        rcases of_bif hx20 with ⟨hb22, hx20⟩ | ⟨hb22, hx20⟩
        · refine HT.cond1 rfl hb22 ?_
          refine HT.skip (qThen ?_)
          refine HT.seq ?_
          refine HT.block ?_
          refine HT.reg1 [1, 2, 6, 7, 8, 9, 33, 34] [⟨none, .no⟩, ⟨none, .no⟩] ⟨[(1, .one (.dat (.sl (.int .i64)) a1)), (2, .one (.ptr 0 0)), (6, .one (.all 1)), (7, .one (.dat (.int .i64) s7.1)), (8, .one (.all 2)), (9, .one (.dat (.int .i64) s15.1)), (33, .one (.dat (.int .i64) a0.1)), (34, .one (.dat (.int .i64) s15.1))], [(0, .box [.dat (.int .i64) a0.1, .dat (.int .i64) a0.2.1, .dat (.sl (.flt .f32)) a0.2.2.1, .dat (.sl (.flt .f32)) a0.2.2.2.1, .dat (.sl (.flt .f32)) a0.2.2.2.2]), (1, .seq (.sl (.flt .f32)) s7.2), (2, .seq (.flt .f32) s15.2)], 3⟩ hP hN (by kernel_rfl) allNil ?_
          refine HT.reg1 [1, 2, 6, 7, 8, 9, 33, 34, 38, 39] [⟨none, .no⟩, ⟨none, .no⟩, ⟨none, .no⟩] ⟨[(1, .one (.dat (.sl (.int .i64)) a1)), (2, .one (.ptr 0 0)), (6, .one (.all 1)), (7, .one (.dat (.int .i64) s7.1)), (8, .one (.all 2)), (9, .one (.dat (.int .i64) s15.1)), (33, .one (.dat (.int .i64) a0.1)), (34, .one (.dat (.int .i64) s15.1)), (38, .one (.dat (.int .i64) a0.1)), (39, .one (.dat (.int .i64) (0 : Int)))], [(0, .box [.dat (.int .i64) a0.1, .dat (.int .i64) a0.2.1, .dat (.sl (.flt .f32)) a0.2.2.1, .dat (.sl (.flt .f32)) a0.2.2.2.1, .dat (.sl (.flt .f32)) a0.2.2.2.2]), (1, .seq (.sl (.flt .f32)) s7.2), (2, .seq (.flt .f32) s15.2)], 3⟩ hP hN (by kernel_rfl) allNil ?_
          refine HT.block ?_
          obtain ⟨r24, hL38, hx20⟩ := of_bind hx20
          refine (Le.cv (s := ⟨[(0, 0), (1, 1), (2, 2)], [], [], false⟩) (own := []) (ps := [a1 = a1, s7.1 = s7.1, s15.1 = s15.1, a0.1 = a0.1, s15.1 = s15.1, a0.1 = a0.1, (0 : Int) = (0 : Int), a0.1 = a0.1, a0.2.1 = a0.2.1, a0.2.2.1 = a0.2.2.1, a0.2.2.2.1 = a0.2.2.2.1, a0.2.2.2.2 = a0.2.2.2.2, s7.2 = s7.2, s15.2 = s15.2]) (st' := ⟨[(1, .one (.dat (.sl (.int .i64)) a1)), (2, .one (.ptr 0 0)), (6, .one (.all 1)), (7, .one (.dat (.int .i64) s7.1)), (8, .one (.all 2)), (9, .one (.dat (.int .i64) s15.1)), (33, .one (.dat (.int .i64) a0.1)), (34, .one (.dat (.int .i64) s15.1)), (38, .one (.dat (.int .i64) a0.1)), (39, .one (.dat (.int .i64) (0 : Int)))], [(0, .box [.dat (.int .i64) a0.1, .dat (.int .i64) a0.2.1, .dat (.sl (.flt .f32)) a0.2.2.1, .dat (.sl (.flt .f32)) a0.2.2.2.1, .dat (.sl (.flt .f32)) a0.2.2.2.2]), (1, .seq (.sl (.flt .f32)) s7.2), (2, .seq (.flt .f32) s15.2)], 3⟩) hO (fun h => by cases h) (by kernel_rfl) ⟨rfl, rfl, rfl, rfl, rfl, rfl, rfl, rfl, rfl, rfl, rfl, rfl, rfl, rfl, trivial⟩).ht ?_
          refine HT.loopE (s := ((0 : Int), s15.2)) (fun (s23 : Int × List Nat) => ⟨[(1, .one (.dat (.sl (.int .i64)) a1)), (2, .one (.ptr 0 0)), (6, .one (.all 1)), (7, .one (.dat (.int .i64) s7.1)), (8, .one (.all 2)), (9, .one (.dat (.int .i64) s15.1)), (33, .one (.dat (.int .i64) a0.1)), (34, .one (.dat (.int .i64) s15.1)), (38, .one (.dat (.int .i64) a0.1)), (39, .one (.dat (.int .i64) s23.1))], [(0, .box [.dat (.int .i64) a0.1, .dat (.int .i64) a0.2.1, .dat (.sl (.flt .f32)) a0.2.2.1, .dat (.sl (.flt .f32)) a0.2.2.2.1, .dat (.sl (.flt .f32)) a0.2.2.2.2]), (1, .seq (.sl (.flt .f32)) s7.2), (2, .seq (.flt .f32) s23.2)], 3⟩) (fun (r25 : List Nat) => (.exit 4, ⟨[(1, .one (.dat (.sl (.int .i64)) a1)), (2, .one (.ptr 0 0)), (6, .one (.all 1)), (7, .one (.dat (.int .i64) s7.1)), (8, .one (.all 2)), (33, .one (.dat (.int .i64) a0.1)), (34, .one (.dat (.int .i64) s15.1))], [(0, .box [.dat (.int .i64) a0.1, .dat (.int .i64) a0.2.1, .dat (.sl (.flt .f32)) a0.2.2.1, .dat (.sl (.flt .f32)) a0.2.2.2.1, .dat (.sl (.flt .f32)) a0.2.2.2.2]), (1, .seq (.sl (.flt .f32)) s7.2), (2, .seq (.flt .f32) r25)], 3⟩)) hL38 ?_ (fun s23 x26 hx27 hk28 => ?_)
          · refine (qBlockX (qBlock (qThen ?_)))
            have hx20 := of_some hx20
            subst hx20
            refine HT.reg (rs := [⟨none, .no⟩, ⟨none, .no⟩]) (st' := ⟨[(34, .one (.dat (.int .i64) (wadd .i64 s15.1 (1 : Int)))), (72, .one (.dat (.int .i64) (wadd .i64 s15.1 (1 : Int)))), (1, .one (.dat (.sl (.int .i64)) a1)), (2, .one (.ptr 0 0)), (6, .one (.all 1)), (7, .one (.dat (.int .i64) s7.1)), (8, .one (.all 2)), (33, .one (.dat (.int .i64) a0.1)), (34, .one (.dat (.int .i64) s15.1))], [(0, .box [.dat (.int .i64) a0.1, .dat (.int .i64) a0.2.1, .dat (.sl (.flt .f32)) a0.2.2.1, .dat (.sl (.flt .f32)) a0.2.2.2.1, .dat (.sl (.flt .f32)) a0.2.2.2.2]), (1, .seq (.sl (.flt .f32)) s7.2), (2, .seq (.flt .f32) r24)], 3⟩) hP hN (by kernel_rfl) allNil (qLoopN ⟨((wadd .i64 s15.1 (1 : Int)), r24), rfl, Le.cv (s := ⟨[(0, 0), (1, 1), (2, 2)], [], [], false⟩) (own := []) (ps := [a1 = a1, s7.1 = s7.1, a0.1 = a0.1, (wadd .i64 s15.1 (1 : Int)) = (wadd .i64 s15.1 (1 : Int)), a0.1 = a0.1, a0.2.1 = a0.2.1, a0.2.2.1 = a0.2.2.1, a0.2.2.2.1 = a0.2.2.2.1, a0.2.2.2.2 = a0.2.2.2.2, s7.2 = s7.2, r24 = r24]) (st' := ⟨[(1, .one (.dat (.sl (.int .i64)) a1)), (2, .one (.ptr 0 0)), (6, .one (.all 1)), (7, .one (.dat (.int .i64) s7.1)), (8, .one (.all 2)), (33, .one (.dat (.int .i64) a0.1)), (34, .one (.dat (.int .i64) (wadd .i64 s15.1 (1 : Int))))], [(0, .box [.dat (.int .i64) a0.1, .dat (.int .i64) a0.2.1, .dat (.sl (.flt .f32)) a0.2.2.1, .dat (.sl (.flt .f32)) a0.2.2.2.1, .dat (.sl (.flt .f32)) a0.2.2.2.2]), (1, .seq (.sl (.flt .f32)) s7.2), (2, .seq (.flt .f32) r24)], 3⟩) hO (fun h => by cases h) (by kernel_rfl) ⟨rfl, rfl, rfl, rfl, rfl, rfl, rfl, rfl, rfl, rfl, rfl, trivial⟩⟩)
          · refine HT.reg1 [1, 2, 6, 7, 8, 9, 33, 34, 38, 39, 40] [⟨none, .no⟩] ⟨[(1, .one (.dat (.sl (.int .i64)) a1)), (2, .one (.ptr 0 0)), (6, .one (.all 1)), (7, .one (.dat (.int .i64) s7.1)), (8, .one (.all 2)), (9, .one (.dat (.int .i64) s15.1)), (33, .one (.dat (.int .i64) a0.1)), (34, .one (.dat (.int .i64) s15.1)), (38, .one (.dat (.int .i64) a0.1)), (39, .one (.dat (.int .i64) s23.1)), (40, .one (.dat .bool (decide (s23.1 < a0.1))))], [(0, .box [.dat (.int .i64) a0.1, .dat (.int .i64) a0.2.1, .dat (.sl (.flt .f32)) a0.2.2.1, .dat (.sl (.flt .f32)) a0.2.2.2.1, .dat (.sl (.flt .f32)) a0.2.2.2.2]), (1, .seq (.sl (.flt .f32)) s7.2), (2, .seq (.flt .f32) s23.2)], 3⟩ hP hN (by kernel_rfl) allNil ?_
            refine HT.seq ?_
            rcases of_bif hx27 with ⟨hb29, hx27⟩ | ⟨hb29, hx27⟩
            · refine HT.cond1 rfl hb29 ?_
              refine HT.skip (qThen ?_)
              refine HT.seq ?_
              refine HT.block ?_
              refine HT.reg1 [1, 2, 6, 7, 8, 9, 10, 33, 34, 38, 39] [⟨none, .no⟩, ⟨none, .no⟩] ⟨[(1, .one (.dat (.sl (.int .i64)) a1)), (2, .one (.ptr 0 0)), (6, .one (.all 1)), (7, .one (.dat (.int .i64) s7.1)), (8, .one (.all 2)), (9, .one (.dat (.int .i64) s15.1)), (10, .one (.dat (.int .i64) s23.1)), (33, .one (.dat (.int .i64) a0.1)), (34, .one (.dat (.int .i64) s15.1)), (38, .one (.dat (.int .i64) a0.1)), (39, .one (.dat (.int .i64) s23.1))], [(0, .box [.dat (.int .i64) a0.1, .dat (.int .i64) a0.2.1, .dat (.sl (.flt .f32)) a0.2.2.1, .dat (.sl (.flt .f32)) a0.2.2.2.1, .dat (.sl (.flt .f32)) a0.2.2.2.2]), (1, .seq (.sl (.flt .f32)) s7.2), (2, .seq (.flt .f32) s23.2)], 3⟩ hP hN (by kernel_rfl) allNil ?_
              obtain ⟨hg30, hx27⟩ := of_guard hx27
              obtain ⟨hg31, hx27⟩ := of_guard hx27
              obtain ⟨y32, hc33, hx27⟩ := of_bind hx27
              obtain ⟨y34, hc35, hx27⟩ := of_bind hx27
              obtain ⟨hg36, hx27⟩ := of_guard hx27
              obtain ⟨hg37, hx27⟩ := of_guard hx27
              refine drawS (h := 28) (hrs := [⟨⟨none, .no⟩, []⟩, ⟨⟨none, .no⟩, []⟩, ⟨⟨none, .no⟩, []⟩, ⟨⟨none, .no⟩, []⟩, ⟨⟨none, .no⟩, [2, 3]⟩, ⟨⟨none, .no⟩, [2, 3, 4]⟩, ⟨⟨none, .no⟩, []⟩, ⟨⟨none, .no⟩, []⟩, ⟨⟨none, .no⟩, []⟩, ⟨⟨none, .no⟩, []⟩, ⟨⟨none, .no⟩, [8, 9]⟩, ⟨⟨none, .no⟩, [8, 9, 10]⟩, ⟨⟨none, .call [.imm (.st (.pair (.int .i64) (.pair (.int .i64) (.pair (.sl (.flt .f32)) (.pair (.sl (.flt .f32)) (.sl (.flt .f32))))))), .imm (.int .i64), .imm (.int .i64)] [⟨false, (.flt .f32), y32⟩] []⟩, [6, 7, 8, 9, 10, 11]⟩, ⟨⟨none, .no⟩, []⟩, ⟨⟨none, .no⟩, []⟩, ⟨⟨none, .no⟩, []⟩, ⟨⟨none, .call [.imm (.st (.pair (.int .i64) (.pair (.int .i64) (.pair (.sl (.flt .f32)) (.pair (.sl (.flt .f32)) (.sl (.flt .f32))))))), .imm (.int .i64), .imm (.int .i64)] [⟨false, (.flt .f32), y34⟩] []⟩, [6, 7, 8, 9, 10, 11, 12, 13, 14, 15]⟩, ⟨⟨none, .no⟩, [6, 7, 8, 9, 10, 11, 12, 13, 14, 15, 16]⟩, ⟨⟨none, .no⟩, []⟩, ⟨⟨none, .no⟩, []⟩, ⟨⟨none, .no⟩, [19]⟩, ⟨⟨none, .no⟩, [18, 19, 20]⟩, ⟨⟨none, .no⟩, [18, 19, 20, 21]⟩, ⟨⟨none, .no⟩, []⟩, ⟨⟨none, .no⟩, [18, 19, 20, 21, 22, 23]⟩, ⟨⟨none, .no⟩, [18, 19, 20, 21, 22, 23, 24]⟩, ⟨⟨none, .no⟩, [6, 7, 8, 9, 10, 11, 12, 13, 14, 15, 16, 17, 18, 19, 20, 21, 22, 23, 24, 25]⟩, ⟨⟨none, .no⟩, [2, 3, 4, 5, 6, 7, 8, 9, 10, 11, 12, 13, 14, 15, 16, 17, 18, 19, 20, 21, 22, 23, 24, 25, 26]⟩]) (tds := [[0, 1, 2, 3, 4, 5, 6, 7, 8, 9, 10, 11, 12, 13, 14, 15, 16, 17, 18, 19, 20, 21, 22, 23, 24, 25, 26, 27], [0, 1, 2, 3, 4, 5, 6, 7, 8, 9, 10, 11, 12, 13, 14, 15, 16, 17, 18, 19, 20, 21, 22, 23, 24, 25, 26, 27, 28]]) (rs := [⟨none, .no⟩, ⟨none, .no⟩]) (st' := ⟨[(70, .one (.elp 2 (Int.toNat s15.1) 1 0)), (69, .one (.dat (.flt .f32) (fop .add .f32 (List.getD s23.2 (Int.toNat s15.1) (0 : Nat)) (fop .mul .f32 (fop .mul .f32 y32 y34) (List.getD (List.getD s7.2 (Int.toNat (wadd .i64 s7.1 (1 : Int))) ([] : List Nat)) (Int.toNat s23.1) (0 : Nat)))))), (68, .one (.dat (.flt .f32) (fop .mul .f32 (fop .mul .f32 y32 y34) (List.getD (List.getD s7.2 (Int.toNat (wadd .i64 s7.1 (1 : Int))) ([] : List Nat)) (Int.toNat s23.1) (0 : Nat))))), (67, .one (.dat (.flt .f32) (List.getD (List.getD s7.2 (Int.toNat (wadd .i64 s7.1 (1 : Int))) ([] : List Nat)) (Int.toNat s23.1) (0 : Nat)))), (66, .one (.ip (.flt .f32) (List.getD (List.getD s7.2 (Int.toNat (wadd .i64 s7.1 (1 : Int))) ([] : List Nat)) (Int.toNat s23.1) (0 : Nat)) 0)), (65, .one (.dat (.int .i64) s23.1)), (64, .one (.dat (.sl (.flt .f32)) (List.getD s7.2 (Int.toNat (wadd .i64 s7.1 (1 : Int))) ([] : List Nat)))), (63, .one (.elp 1 (Int.toNat (wadd .i64 s7.1 (1 : Int))) 1 0)), (62, .one (.dat (.int .i64) (wadd .i64 s7.1 (1 : Int)))), (61, .one (.dat (.int .i64) s7.1)), (60, .one (.all 1)), (59, .one (.dat (.flt .f32) (fop .mul .f32 y32 y34))), (58, .one (.dat (.flt .f32) y34)), (57, .one (.dat (.int .i64) s23.1)), (56, .one (.dat (.int .i64) s15.1)), (55, .agg [.dat (.int .i64) a0.1, .dat (.int .i64) a0.2.1, .dat (.sl (.flt .f32)) a0.2.2.1, .dat (.sl (.flt .f32)) a0.2.2.2.1, .dat (.sl (.flt .f32)) a0.2.2.2.2]), (54, .one (.dat (.flt .f32) y32)), (53, .one (.dat (.int .i64) (List.getD a1 (Int.toNat s7.1) (0 : Int)))), (52, .one (.ip (.int .i64) (List.getD a1 (Int.toNat s7.1) (0 : Int)) 0)), (51, .one (.dat (.int .i64) s7.1)), (50, .one (.dat (.sl (.int .i64)) a1)), (49, .one (.dat (.int .i64) s15.1)), (48, .agg [.dat (.int .i64) a0.1, .dat (.int .i64) a0.2.1, .dat (.sl (.flt .f32)) a0.2.2.1, .dat (.sl (.flt .f32)) a0.2.2.2.1, .dat (.sl (.flt .f32)) a0.2.2.2.2]), (47, .one (.dat (.flt .f32) (List.getD s23.2 (Int.toNat s15.1) (0 : Nat)))), (46, .one (.elp 2 (Int.toNat s15.1) 1 0)), (45, .one (.dat (.int .i64) s15.1)), (44, .one (.all 2)), (43, .one (.dat (.int .i64) s15.1)), (42, .one (.all 2)), (1, .one (.dat (.sl (.int .i64)) a1)), (2, .one (.ptr 0 0)), (6, .one (.all 1)), (7, .one (.dat (.int .i64) s7.1)), (8, .one (.all 2)), (9, .one (.dat (.int .i64) s15.1)), (10, .one (.dat (.int .i64) s23.1)), (33, .one (.dat (.int .i64) a0.1)), (34, .one (.dat (.int .i64) s15.1)), (38, .one (.dat (.int .i64) a0.1)), (39, .one (.dat (.int .i64) s23.1))], [(2, .seq (.flt .f32) (List.set s23.2 (Int.toNat s15.1) (fop .add .f32 (List.getD s23.2 (Int.toNat s15.1) (0 : Nat)) (fop .mul .f32 (fop .mul .f32 y32 y34) (List.getD (List.getD s7.2 (Int.toNat (wadd .i64 s7.1 (1 : Int))) ([] : List Nat)) (Int.toNat s23.1) (0 : Nat)))))), (0, .box [.dat (.int .i64) a0.1, .dat (.int .i64) a0.2.1, .dat (.sl (.flt .f32)) a0.2.2.1, .dat (.sl (.flt .f32)) a0.2.2.2.1, .dat (.sl (.flt .f32)) a0.2.2.2.2]), (1, .seq (.sl (.flt .f32)) s7.2), (2, .seq (.flt .f32) s23.2)], 3⟩) hP hN (by kernel_rfl) (by kernel_rfl) (allCons hg30 (allCons (natLt hg30) (allCons hg31 (allCons (f83_ok hc33) (allCons (f84_ok hc35) (allCons hg36 (allCons (natLt hg36) (allCons hg37 (allCons hg30 (allCons (natLt hg30) allNil)))))))))) (qBlock (qThen ?_))
              have hx27 := of_some hx27
              subst hx27
              refine HT.reg (rs := [⟨none, .no⟩, ⟨none, .no⟩]) (st' := ⟨[(39, .one (.dat (.int .i64) (wadd .i64 s23.1 (1 : Int)))), (71, .one (.dat (.int .i64) (wadd .i64 s23.1 (1 : Int)))), (70, .one (.elp 2 (Int.toNat s15.1) 1 0)), (69, .one (.dat (.flt .f32) (fop .add .f32 (List.getD s23.2 (Int.toNat s15.1) (0 : Nat)) (fop .mul .f32 (fop .mul .f32 y32 y34) (List.getD (List.getD s7.2 (Int.toNat (wadd .i64 s7.1 (1 : Int))) ([] : List Nat)) (Int.toNat s23.1) (0 : Nat)))))), (68, .one (.dat (.flt .f32) (fop .mul .f32 (fop .mul .f32 y32 y34) (List.getD (List.getD s7.2 (Int.toNat (wadd .i64 s7.1 (1 : Int))) ([] : List Nat)) (Int.toNat s23.1) (0 : Nat))))), (67, .one (.dat (.flt .f32) (List.getD (List.getD s7.2 (Int.toNat (wadd .i64 s7.1 (1 : Int))) ([] : List Nat)) (Int.toNat s23.1) (0 : Nat)))), (66, .one (.ip (.flt .f32) (List.getD (List.getD s7.2 (Int.toNat (wadd .i64 s7.1 (1 : Int))) ([] : List Nat)) (Int.toNat s23.1) (0 : Nat)) 0)), (65, .one (.dat (.int .i64) s23.1)), (64, .one (.dat (.sl (.flt .f32)) (List.getD s7.2 (Int.toNat (wadd .i64 s7.1 (1 : Int))) ([] : List Nat)))), (63, .one (.elp 1 (Int.toNat (wadd .i64 s7.1 (1 : Int))) 1 0)), (62, .one (.dat (.int .i64) (wadd .i64 s7.1 (1 : Int)))), (61, .one (.dat (.int .i64) s7.1)), (60, .one (.all 1)), (59, .one (.dat (.flt .f32) (fop .mul .f32 y32 y34))), (58, .one (.dat (.flt .f32) y34)), (57, .one (.dat (.int .i64) s23.1)), (56, .one (.dat (.int .i64) s15.1)), (55, .agg [.dat (.int .i64) a0.1, .dat (.int .i64) a0.2.1, .dat (.sl (.flt .f32)) a0.2.2.1, .dat (.sl (.flt .f32)) a0.2.2.2.1, .dat (.sl (.flt .f32)) a0.2.2.2.2]), (54, .one (.dat (.flt .f32) y32)), (53, .one (.dat (.int .i64) (List.getD a1 (Int.toNat s7.1) (0 : Int)))), (52, .one (.ip (.int .i64) (List.getD a1 (Int.toNat s7.1) (0 : Int)) 0)), (51, .one (.dat (.int .i64) s7.1)), (50, .one (.dat (.sl (.int .i64)) a1)), (49, .one (.dat (.int .i64) s15.1)), (48, .agg [.dat (.int .i64) a0.1, .dat (.int .i64) a0.2.1, .dat (.sl (.flt .f32)) a0.2.2.1, .dat (.sl (.flt .f32)) a0.2.2.2.1, .dat (.sl (.flt .f32)) a0.2.2.2.2]), (47, .one (.dat (.flt .f32) (List.getD s23.2 (Int.toNat s15.1) (0 : Nat)))), (46, .one (.elp 2 (Int.toNat s15.1) 1 0)), (45, .one (.dat (.int .i64) s15.1)), (44, .one (.all 2)), (43, .one (.dat (.int .i64) s15.1)), (42, .one (.all 2)), (1, .one (.dat (.sl (.int .i64)) a1)), (2, .one (.ptr 0 0)), (6, .one (.all 1)), (7, .one (.dat (.int .i64) s7.1)), (8, .one (.all 2)), (9, .one (.dat (.int .i64) s15.1)), (10, .one (.dat (.int .i64) s23.1)), (33, .one (.dat (.int .i64) a0.1)), (34, .one (.dat (.int .i64) s15.1)), (38, .one (.dat (.int .i64) a0.1)), (39, .one (.dat (.int .i64) s23.1))], [(2, .seq (.flt .f32) (List.set s23.2 (Int.toNat s15.1) (fop .add .f32 (List.getD s23.2 (Int.toNat s15.1) (0 : Nat)) (fop .mul .f32 (fop .mul .f32 y32 y34) (List.getD (List.getD s7.2 (Int.toNat (wadd .i64 s7.1 (1 : Int))) ([] : List Nat)) (Int.toNat s23.1) (0 : Nat)))))), (0, .box [.dat (.int .i64) a0.1, .dat (.int .i64) a0.2.1, .dat (.sl (.flt .f32)) a0.2.2.1, .dat (.sl (.flt .f32)) a0.2.2.2.1, .dat (.sl (.flt .f32)) a0.2.2.2.2]), (1, .seq (.sl (.flt .f32)) s7.2), (2, .seq (.flt .f32) s23.2)], 3⟩) hP hN (by kernel_rfl) allNil (qLoopN ⟨((wadd .i64 s23.1 (1 : Int)), (List.set s23.2 (Int.toNat s15.1) (fop .add .f32 (List.getD s23.2 (Int.toNat s15.1) (0 : Nat)) (fop .mul .f32 (fop .mul .f32 y32 y34) (List.getD (List.getD s7.2 (Int.toNat (wadd .i64 s7.1 (1 : Int))) ([] : List Nat)) (Int.toNat s23.1) (0 : Nat)))))), rfl, Le.cv (s := ⟨[(0, 0), (1, 1), (2, 2)], [], [], false⟩) (own := []) (ps := [a1 = a1, s7.1 = s7.1, s15.1 = s15.1, a0.1 = a0.1, s15.1 = s15.1, a0.1 = a0.1, (wadd .i64 s23.1 (1 : Int)) = (wadd .i64 s23.1 (1 : Int)), a0.1 = a0.1, a0.2.1 = a0.2.1, a0.2.2.1 = a0.2.2.1, a0.2.2.2.1 = a0.2.2.2.1, a0.2.2.2.2 = a0.2.2.2.2, s7.2 = s7.2, (List.set s23.2 (Int.toNat s15.1) (fop .add .f32 (List.getD s23.2 (Int.toNat s15.1) (0 : Nat)) (fop .mul .f32 (fop .mul .f32 y32 y34) (List.getD (List.getD s7.2 (Int.toNat (wadd .i64 s7.1 (1 : Int))) ([] : List Nat)) (Int.toNat s23.1) (0 : Nat))))) = (List.set s23.2 (Int.toNat s15.1) (fop .add .f32 (List.getD s23.2 (Int.toNat s15.1) (0 : Nat)) (fop .mul .f32 (fop .mul .f32 y32 y34) (List.getD (List.getD s7.2 (Int.toNat (wadd .i64 s7.1 (1 : Int))) ([] : List Nat)) (Int.toNat s23.1) (0 : Nat)))))]) (st' := ⟨[(1, .one (.dat (.sl (.int .i64)) a1)), (2, .one (.ptr 0 0)), (6, .one (.all 1)), (7, .one (.dat (.int .i64) s7.1)), (8, .one (.all 2)), (9, .one (.dat (.int .i64) s15.1)), (33, .one (.dat (.int .i64) a0.1)), (34, .one (.dat (.int .i64) s15.1)), (38, .one (.dat (.int .i64) a0.1)), (39, .one (.dat (.int .i64) (wadd .i64 s23.1 (1 : Int))))], [(0, .box [.dat (.int .i64) a0.1, .dat (.int .i64) a0.2.1, .dat (.sl (.flt .f32)) a0.2.2.1, .dat (.sl (.flt .f32)) a0.2.2.2.1, .dat (.sl (.flt .f32)) a0.2.2.2.2]), (1, .seq (.sl (.flt .f32)) s7.2), (2, .seq (.flt .f32) (List.set s23.2 (Int.toNat s15.1) (fop .add .f32 (List.getD s23.2 (Int.toNat s15.1) (0 : Nat)) (fop .mul .f32 (fop .mul .f32 y32 y34) (List.getD (List.getD s7.2 (Int.toNat (wadd .i64 s7.1 (1 : Int))) ([] : List Nat)) (Int.toNat s23.1) (0 : Nat))))))], 3⟩) hO (fun h => by cases h) (by kernel_rfl) ⟨rfl, rfl, rfl, rfl, rfl, rfl, rfl, rfl, rfl, rfl, rfl, rfl, rfl, rfl, trivial⟩⟩)
            · refine HT.cond0 rfl hb29 ?_
              have hx27 := of_some hx27
              subst hx27
              refine (Le.cv (s := ⟨[(0, 0), (1, 1), (2, 2)], [], [], false⟩) (own := []) (ps := [a1 = a1, s7.1 = s7.1, a0.1 = a0.1, s15.1 = s15.1, a0.1 = a0.1, a0.2.1 = a0.2.1, a0.2.2.1 = a0.2.2.1, a0.2.2.2.1 = a0.2.2.2.1, a0.2.2.2.2 = a0.2.2.2.2, s7.2 = s7.2, s23.2 = s23.2]) (st' := ⟨[(1, .one (.dat (.sl (.int .i64)) a1)), (2, .one (.ptr 0 0)), (6, .one (.all 1)), (7, .one (.dat (.int .i64) s7.1)), (8, .one (.all 2)), (33, .one (.dat (.int .i64) a0.1)), (34, .one (.dat (.int .i64) s15.1))], [(0, .box [.dat (.int .i64) a0.1, .dat (.int .i64) a0.2.1, .dat (.sl (.flt .f32)) a0.2.2.1, .dat (.sl (.flt .f32)) a0.2.2.2.1, .dat (.sl (.flt .f32)) a0.2.2.2.2]), (1, .seq (.sl (.flt .f32)) s7.2), (2, .seq (.flt .f32) s23.2)], 3⟩) hO (fun h => by cases h) (by kernel_rfl) ⟨rfl, rfl, rfl, rfl, rfl, rfl, rfl, rfl, rfl, rfl, rfl, trivial⟩).ht ?_
              exact HT.exit (qThenE (qLoopE (hk28 s23.2 rfl)))
        · refine HT.cond0 rfl hb22 ?_
          have hx20 := of_some hx20
          subst hx20
          refine (Le.cv (s := ⟨[(0, 0), (1, 1), (2, 2)], [], [], false⟩) (own := []) (ps := [a1 = a1, s7.1 = s7.1, a0.1 = a0.1, a0.2.1 = a0.2.1, a0.2.2.1 = a0.2.2.1, a0.2.2.2.1 = a0.2.2.2.1, a0.2.2.2.2 = a0.2.2.2.2, s7.2 = s7.2, s15.2 = s15.2]) (st' := ⟨[(1, .one (.dat (.sl (.int .i64)) a1)), (2, .one (.ptr 0 0)), (6, .one (.all 1)), (7, .one (.dat (.int .i64) s7.1)), (8, .one (.all 2))], [(0, .box [.dat (.int .i64) a0.1, .dat (.int .i64) a0.2.1, .dat (.sl (.flt .f32)) a0.2.2.1, .dat (.sl (.flt .f32)) a0.2.2.2.1, .dat (.sl (.flt .f32)) a0.2.2.2.2]), (1, .seq (.sl (.flt .f32)) s7.2), (2, .seq (.flt .f32) s15.2)], 3⟩) hO (fun h => by cases h) (by kernel_rfl) ⟨rfl, rfl, rfl, rfl, rfl, rfl, rfl, rfl, rfl, trivial⟩).ht ?_
          exact HT.exit (qThenE (qLoopE (hk21 s15.2 rfl)))
    · refine HT.cond0 rfl hb13 ?_
      have hx11 := of_some hx11
      subst hx11
      refine (Le.cv (s := ⟨[(1, 0)], [], [], false⟩) (own := []) (ps := [s7.2 = s7.2]) (st' := ⟨[(6, .one (.all 0))], [(0, .seq (.sl (.flt .f32)) s7.2)], 1⟩) hO (fun h => by cases h) (by kernel_rfl) ⟨rfl, trivial⟩).ht ?_
      exact HT.exit (qThenE (qLoopE (hk12 s7.2 rfl)))

noncomputable def slices_Grow___float32_float32_nl0 (a1 : Int) : Option (List Nat) :=
  bif (decide (a1 < (0 : Int))) then
    none
  else
    (show Option (List Nat) from
      bif (decide ((wsub .i64 a1 (wsub .i64 (0 : Int) (0 : Int))) > (0 : Int))) then
        guardP ((0 : Int) ≤ (wsub .i64 a1 (wsub .i64 (0 : Int) (0 : Int))) ∧ (wsub .i64 a1 (wsub .i64 (0 : Int) (0 : Int))) ≤ 4294967296) (
          guardP ((0 : Int) ≤ (0 : Int) ∧ (0 : Int) ≤ lenI (List.replicate (Int.toNat (wsub .i64 a1 (wsub .i64 (0 : Int) (0 : Int)))) (0 : Nat))) (
            some (List.take (Int.toNat (0 : Int)) (List.replicate (Int.toNat (wsub .i64 a1 (wsub .i64 (0 : Int) (0 : Int)))) (0 : Nat)))))
      else
        some ([] : List Nat)).bind fun v2 =>
    some v2

theorem f81_nl0_ok {a1 : Int} {r : List Nat} (hr : slices_Grow___float32_float32_nl0 a1 = some r) : CallOK Try.prog 81 [.nl, .imm (.int .i64) a1] [⟨true, (.sl (.flt .f32)), r⟩] [] := by
  unfold slices_Grow___float32_float32_nl0 at hr
  refine CallOK.of_body (ts := [(true, (.sl (.flt .f32)))]) Try.func81 rfl (by kernel_rfl) (Nat.le_of_ble_eq_true (by kernel_rfl)) fun cx hP hN hO hF => ?_
  have hO : cx.own.map Prod.fst = [] := hO
  have hF := hF rfl
  show HT cx ⟨[(0, .one (.nilS)), (1, .one (.dat (.int .i64) a1))], [], 0⟩ _ _
  refine HT.reg1 [0, 1] [⟨none, .no⟩] ⟨[(0, .one (.nilS)), (1, .one (.dat (.int .i64) a1))], [], 0⟩ hP hN (by kernel_rfl) allNil ?_
  refine HT.seq ?_
  refine HT.reg1 [0, 1, 6] [⟨none, .no⟩, ⟨none, .no⟩] ⟨[(0, .one (.nilS)), (1, .one (.dat (.int .i64) a1)), (6, .one (.dat .bool (decide (a1 < (0 : Int)))))], [], 0⟩ hP hN (by kernel_rfl) allNil ?_
  rcases of_bif hr with ⟨hb1, hr⟩ | ⟨hb1, hr⟩
  · refine HT.cond1 rfl hb1 ?_
    cases hr
  · refine HT.cond0 rfl hb1 ?_
    refine HT.skip (qThen ?_)
    obtain ⟨v2', hT4, hr⟩ := of_bind hr
    refine HT.join (fun (v2 : List Nat) => ⟨[(0, .one (.all 0))], [(0, .seq (.flt .f32) v2)], 1⟩) (fun v => v = v2') (fun v2 hv3 => ?_) (fun cont => ?_)
    · subst hv3
      refine HT.reg1 [4] [⟨none, .no⟩, ⟨none, .no⟩] ⟨[(4, .one (.all 0))], [(0, .seq (.flt .f32) v2)], 1⟩ hP hN (by kernel_rfl) allNil ?_
      have hr := of_some hr
      subst hr
      exact HT.ret ⟨[.one (.all 0)], [0], [], by kernel_rfl, by kernel_rfl, rfl, by kernel_rfl, by kernel_rfl, trivial⟩
    · refine HT.reg1 [0, 1] [⟨none, .no⟩, ⟨none, .no⟩, ⟨none, .no⟩, ⟨none, .no⟩, ⟨none, .no⟩, ⟨none, .no⟩, ⟨none, .no⟩, ⟨none, .no⟩] ⟨[(0, .one (.nilS)), (1, .one (.dat (.int .i64) (wsub .i64 a1 (wsub .i64 (0 : Int) (0 : Int)))))], [], 0⟩ hP hN (by kernel_rfl) allNil ?_
      refine HT.reg1 [0, 1, 16] [⟨none, .no⟩, ⟨none, .no⟩] ⟨[(0, .one (.nilS)), (1, .one (.dat (.int .i64) (wsub .i64 a1 (wsub .i64 (0 : Int) (0 : Int))))), (16, .one (.dat .bool (decide ((wsub .i64 a1 (wsub .i64 (0 : Int) (0 : Int))) > (0 : Int)))))], [], 0⟩ hP hN (by kernel_rfl) allNil ?_
      rcases of_bif hT4 with ⟨hb5, hT4⟩ | ⟨hb5, hT4⟩
      · refine HT.cond1 rfl hb5 ?_
        obtain ⟨hg6, hT4⟩ := of_guard hT4
        obtain ⟨hg7, hT4⟩ := of_guard hT4
        refine HT.reg (rs := [⟨none, .no⟩, ⟨none, .no⟩, ⟨none, .no⟩, ⟨none, .no⟩, ⟨none, .no⟩, ⟨none, .tyD (.flt .f32)⟩, ⟨none, .no⟩, ⟨none, .no⟩, ⟨none, .no⟩, ⟨none, .no⟩]) (st' := ⟨[(0, .one (.ref 0 0 (Int.toNat (0 : Int)))), (25, .one (.ref 0 0 (Int.toNat (0 : Int)))), (24, .one (.dat (.int .i64) (0 : Int))), (23, .one (.nilS)), (22, .one (.all 0)), (21, .one (.dat (.int .i64) (wsub .i64 a1 (wsub .i64 (0 : Int) (0 : Int))))), (20, .one (.nilS)), (19, .one (.dat (.int .i64) (0 : Int))), (18, .one (.nilS)), (17, .one (.nilS)), (0, .one (.nilS)), (1, .one (.dat (.int .i64) (wsub .i64 a1 (wsub .i64 (0 : Int) (0 : Int))))), (16, .one (.dat .bool (decide ((wsub .i64 a1 (wsub .i64 (0 : Int) (0 : Int))) > (0 : Int)))))], [(0, .seq (.flt .f32) (List.replicate (Int.toNat (wsub .i64 a1 (wsub .i64 (0 : Int) (0 : Int)))) (0 : Nat)))], 1⟩) hP hN (by kernel_rfl) (allCons (show (0 : Int) ≤ (0 : Int) ∧ (0 : Int) ≤ (0 : Int) ∧ (0 : Int) ≤ 0 from by decide) (allCons hg6 (allCons (show (0 : Int) ≤ 0 ∧ (0 : Int) ≤ (0 : Int) ∧ (0 : Int) ≤ lenI (List.replicate (Int.toNat (wsub .i64 a1 (wsub .i64 (0 : Int) (0 : Int)))) (0 : Nat)) from ⟨Int.le_refl _, hg7.1, hg7.2⟩) allNil))) (qThen ?_)
        exact (Le.cv (s := ⟨[(0, 0)], [], [0], false⟩) (own := []) (ps := [0 = 0, List.length (List.take (Int.toNat (0 : Int)) (List.replicate (Int.toNat (wsub .i64 a1 (wsub .i64 (0 : Int) (0 : Int)))) (0 : Nat))) = Int.toNat (0 : Int), (List.take (Int.toNat (0 : Int)) (List.replicate (Int.toNat (wsub .i64 a1 (wsub .i64 (0 : Int) (0 : Int)))) (0 : Nat))) = List.take (List.length (List.take (Int.toNat (0 : Int)) (List.replicate (Int.toNat (wsub .i64 a1 (wsub .i64 (0 : Int) (0 : Int)))) (0 : Nat)))) (List.replicate (Int.toNat (wsub .i64 a1 (wsub .i64 (0 : Int) (0 : Int)))) (0 : Nat))]) (st' := ⟨[(0, .one (.all 0))], [(0, .seq (.flt .f32) (List.take (Int.toNat (0 : Int)) (List.replicate (Int.toNat (wsub .i64 a1 (wsub .i64 (0 : Int) (0 : Int)))) (0 : Nat))))], 1⟩) hO (fun h => by cases h) (by kernel_rfl) ⟨rfl, (trunc1 hg7), (trunc2 _ _), trivial⟩).ht (cont (List.take (Int.toNat (0 : Int)) (List.replicate (Int.toNat (wsub .i64 a1 (wsub .i64 (0 : Int) (0 : Int)))) (0 : Nat))) (of_some hT4))
      · refine HT.cond0 rfl hb5 ?_
        refine HT.skip (qThen ?_)
        exact (Le.cv (s := ⟨[], [0], [], false⟩) (own := []) (ps := [([] : List Nat) = []]) (st' := ⟨[(0, .one (.all 0))], [(0, .seq (.flt .f32) ([] : List Nat))], 1⟩) hO (fun h => by cases h) (by kernel_rfl) ⟨rfl, trivial⟩).ht (cont ([] : List Nat) (of_some hT4))

noncomputable def slices_Concat___float32_float32_B1 (a0 : List (List Nat)) (s6 : Int × List Nat) : Option ((Int × List Nat) ⊕ (List Nat)) :=
  bif (decide (s6.1 < (lenI a0))) then
    guardP ((0 : Int) ≤ s6.1 ∧ s6.1 < lenI a0) (
      guardP (List.length s6.2 + List.length (List.getD a0 (Int.toNat s6.1) ([] : List Nat)) ≤ appMax) (
        some (.inl ((wadd .i64 s6.1 (1 : Int)), (s6.2 ++ (List.getD a0 (Int.toNat s6.1) ([] : List Nat)))))))
  else
    some (.inr s6.2)

noncomputable def slices_Concat___float32_float32_B2 (a0 : List (List Nat)) (s1 : Int × Int) : Option ((Int × Int) ⊕ (Int)) :=
  bif (decide (s1.2 < (lenI a0))) then
    guardP ((0 : Int) ≤ s1.2 ∧ s1.2 < lenI a0) (
      bif (decide ((wadd .i64 s1.1 (lenI (List.getD a0 (Int.toNat s1.2) ([] : List Nat)))) < (0 : Int))) then
        none
      else
        some (.inl ((wadd .i64 s1.1 (lenI (List.getD a0 (Int.toNat s1.2) ([] : List Nat)))), (wadd .i64 s1.2 (1 : Int)))))
  else
    some (.inr s1.1)

noncomputable def slices_Concat___float32_float32 (a0 : List (List Nat)) : Option (List Nat) :=
  (rounds (slices_Concat___float32_float32_B2 a0) ((0 : Int), (0 : Int))).bind fun r3 =>
  (slices_Grow___float32_float32_nl0 r3).bind fun y4 =>
  (rounds (slices_Concat___float32_float32_B1 a0) ((0 : Int), y4)).bind fun r8 =>
  some r8

theorem f49_ok {a0 : List (List Nat)} {r : List Nat} (hr : slices_Concat___float32_float32 a0 = some r) : CallOK Try.prog 49 [.imm (.sl (.sl (.flt .f32))) a0] [⟨true, (.sl (.flt .f32)), r⟩] [] := by
  unfold slices_Concat___float32_float32 at hr
  refine CallOK.of_body (ts := [(true, (.sl (.flt .f32)))]) Try.func49 rfl (by kernel_rfl) (Nat.le_of_ble_eq_true (by kernel_rfl)) fun cx hP hN hO hF => ?_
  have hO : cx.own.map Prod.fst = [] := hO
  have hF := hF rfl
  show HT cx ⟨[(0, .one (.dat (.sl (.sl (.flt .f32))) a0))], [], 0⟩ _ _
  refine HT.reg1 [0] [⟨none, .no⟩] ⟨[(0, .one (.dat (.sl (.sl (.flt .f32))) a0))], [], 0⟩ hP hN (by kernel_rfl) allNil ?_
  refine HT.reg1 [0, 3] [⟨none, .no⟩] ⟨[(0, .one (.dat (.sl (.sl (.flt .f32))) a0)), (3, .one (.dat (.int .i64) (0 : Int)))], [], 0⟩ hP hN (by kernel_rfl) allNil ?_
  refine HT.seq ?_
  refine HT.reg1 [0, 3, 9, 10, 11] [⟨none, .no⟩, ⟨none, .no⟩, ⟨none, .no⟩] ⟨[(0, .one (.dat (.sl (.sl (.flt .f32))) a0)), (3, .one (.dat (.int .i64) (0 : Int))), (9, .one (.dat (.sl (.sl (.flt .f32))) a0)), (10, .one (.dat (.int .i64) (lenI a0))), (11, .one (.dat (.int .i64) (0 : Int)))], [], 0⟩ hP hN (by kernel_rfl) allNil ?_
  refine HT.block ?_
  obtain ⟨r2, hL22, hr⟩ := of_bind hr
  refine (Le.cv (s := ⟨[], [], [], false⟩) (own := []) (ps := [a0 = a0, (0 : Int) = (0 : Int), a0 = a0, (lenI a0) = (lenI a0), (0 : Int) = (0 : Int)]) (st' := ⟨[(0, .one (.dat (.sl (.sl (.flt .f32))) a0)), (3, .one (.dat (.int .i64) (0 : Int))), (9, .one (.dat (.sl (.sl (.flt .f32))) a0)), (10, .one (.dat (.int .i64) (lenI a0))), (11, .one (.dat (.int .i64) (0 : Int)))], [], 0⟩) hO (fun h => by cases h) (by kernel_rfl) ⟨rfl, rfl, rfl, rfl, rfl, trivial⟩).ht ?_
  refine HT.loopE (s := ((0 : Int), (0 : Int))) (fun (s1 : Int × Int) => ⟨[(0, .one (.dat (.sl (.sl (.flt .f32))) a0)), (3, .one (.dat (.int .i64) s1.1)), (9, .one (.dat (.sl (.sl (.flt .f32))) a0)), (10, .one (.dat (.int .i64) (lenI a0))), (11, .one (.dat (.int .i64) s1.2))], [], 0⟩) (fun (r3 : Int) => (.exit 0, ⟨[(0, .one (.dat (.sl (.sl (.flt .f32))) a0)), (3, .one (.dat (.int .i64) r3))], [], 0⟩)) hL22 ?_ (fun s1 x16 hx17 hk18 => ?_)
  · refine (qBlockX (qThen ?_))
    obtain ⟨y4, hc5, hr⟩ := of_bind hr
    refine HT.reg1 [0, 6] [⟨none, .no⟩, ⟨none, .call [.nl, .imm (.int .i64)] [⟨true, (.sl (.flt .f32)), y4⟩] []⟩, ⟨none, .no⟩] ⟨[(0, .one (.dat (.sl (.sl (.flt .f32))) a0)), (6, .one (.all 0))], [(0, .seq (.flt .f32) y4)], 1⟩ hP hN (by kernel_rfl) (allCons (f81_nl0_ok hc5) allNil) ?_
    refine HT.seq ?_
    refine HT.reg1 [6, 25, 26, 27] [⟨none, .no⟩, ⟨none, .no⟩, ⟨none, .no⟩] ⟨[(6, .one (.all 0)), (25, .one (.dat (.sl (.sl (.flt .f32))) a0)), (26, .one (.dat (.int .i64) (lenI a0))), (27, .one (.dat (.int .i64) (0 : Int)))], [(0, .seq (.flt .f32) y4)], 1⟩ hP hN (by kernel_rfl) allNil ?_
    refine HT.block ?_
    obtain ⟨r7, hL15, hr⟩ := of_bind hr
    refine (Le.cv (s := ⟨[(0, 0)], [], [], false⟩) (own := []) (ps := [a0 = a0, (lenI a0) = (lenI a0), (0 : Int) = (0 : Int), y4 = y4]) (st' := ⟨[(6, .one (.all 0)), (25, .one (.dat (.sl (.sl (.flt .f32))) a0)), (26, .one (.dat (.int .i64) (lenI a0))), (27, .one (.dat (.int .i64) (0 : Int)))], [(0, .seq (.flt .f32) y4)], 1⟩) hO (fun h => by cases h) (by kernel_rfl) ⟨rfl, rfl, rfl, rfl, trivial⟩).ht ?_
    refine HT.loopE (s := ((0 : Int), y4)) (fun (s6 : Int × List Nat) => ⟨[(6, .one (.all 0)), (25, .one (.dat (.sl (.sl (.flt .f32))) a0)), (26, .one (.dat (.int .i64) (lenI a0))), (27, .one (.dat (.int .i64) s6.1))], [(0, .seq (.flt .f32) s6.2)], 1⟩) (fun (r8 : List Nat) => (.exit 2, ⟨[(6, .one (.all 0))], [(0, .seq (.flt .f32) r8)], 1⟩)) hL15 ?_ (fun s6 x9 hx10 hk11 => ?_)
    · refine (qBlockX (qThen ?_))
      refine HT.reg1 [2] [⟨none, .no⟩, ⟨none, .no⟩] ⟨[(2, .one (.all 0))], [(0, .seq (.flt .f32) r7)], 1⟩ hP hN (by kernel_rfl) allNil ?_
      have hr := of_some hr
      subst hr
      exact HT.ret ⟨[.one (.all 0)], [0], [], by kernel_rfl, by kernel_rfl, rfl, by kernel_rfl, by kernel_rfl, trivial⟩
    · refine HT.reg1 [6, 25, 26, 27, 28] [⟨none, .no⟩] ⟨[(6, .one (.all 0)), (25, .one (.dat (.sl (.sl (.flt .f32))) a0)), (26, .one (.dat (.int .i64) (lenI a0))), (27, .one (.dat (.int .i64) s6.1)), (28, .one (.dat .bool (decide (s6.1 < (lenI a0)))))], [(0, .seq (.flt .f32) s6.2)], 1⟩ hP hN (by kernel_rfl) allNil ?_
      refine HT.seq ?_
      rcases of_bif hx10 with ⟨hb12, hx10⟩ | ⟨hb12, hx10⟩
      · refine HT.cond1 rfl hb12 ?_
        refine HT.skip (qThen ?_)
        refine HT.seq ?_
        refine HT.block ?_
        obtain ⟨hg13, hx10⟩ := of_guard hx10
        refine HT.reg1 [6, 8, 25, 26, 27] [⟨none, .no⟩, ⟨none, .no⟩, ⟨none, .no⟩] ⟨[(6, .one (.all 0)), (8, .one (.dat (.sl (.flt .f32)) (List.getD a0 (Int.toNat s6.1) ([] : List Nat)))), (25, .one (.dat (.sl (.sl (.flt .f32))) a0)), (26, .one (.dat (.int .i64) (lenI a0))), (27, .one (.dat (.int .i64) s6.1))], [(0, .seq (.flt .f32) s6.2)], 1⟩ hP hN (by kernel_rfl) (allCons hg13 allNil) ?_
        obtain ⟨hg14, hx10⟩ := of_guard hx10
        refine HT.reg (rs := [⟨none, .no⟩, ⟨none, .no⟩, ⟨none, .ty (.flt .f32)⟩, ⟨none, .no⟩]) (st' := ⟨[(6, .one (.all 1)), (33, .one (.all 1)), (32, .one (.dat (.sl (.flt .f32)) (List.getD a0 (Int.toNat s6.1) ([] : List Nat)))), (31, .one (.all 0)), (6, .one (.all 0)), (8, .one (.dat (.sl (.flt .f32)) (List.getD a0 (Int.toNat s6.1) ([] : List Nat)))), (25, .one (.dat (.sl (.sl (.flt .f32))) a0)), (26, .one (.dat (.int .i64) (lenI a0))), (27, .one (.dat (.int .i64) s6.1))], [(0, .gone), (1, .seq (.flt .f32) (s6.2 ++ (List.getD a0 (Int.toNat s6.1) ([] : List Nat)))), (0, .seq (.flt .f32) s6.2)], 2⟩) hP hN (by kernel_rfl) (allCons hg14 allNil) (qBlock (qThen ?_))
        have hx10 := of_some hx10
        subst hx10
        refine HT.reg (rs := [⟨none, .no⟩, ⟨none, .no⟩]) (st' := ⟨[(27, .one (.dat (.int .i64) (wadd .i64 s6.1 (1 : Int)))), (34, .one (.dat (.int .i64) (wadd .i64 s6.1 (1 : Int)))), (6, .one (.all 1)), (33, .one (.all 1)), (32, .one (.dat (.sl (.flt .f32)) (List.getD a0 (Int.toNat s6.1) ([] : List Nat)))), (31, .one (.all 0)), (6, .one (.all 0)), (8, .one (.dat (.sl (.flt .f32)) (List.getD a0 (Int.toNat s6.1) ([] : List Nat)))), (25, .one (.dat (.sl (.sl (.flt .f32))) a0)), (26, .one (.dat (.int .i64) (lenI a0))), (27, .one (.dat (.int .i64) s6.1))], [(0, .gone), (1, .seq (.flt .f32) (s6.2 ++ (List.getD a0 (Int.toNat s6.1) ([] : List Nat)))), (0, .seq (.flt .f32) s6.2)], 2⟩) hP hN (by kernel_rfl) allNil (qLoopN ⟨((wadd .i64 s6.1 (1 : Int)), (s6.2 ++ (List.getD a0 (Int.toNat s6.1) ([] : List Nat)))), rfl, Le.cv (s := ⟨[(1, 0)], [], [], false⟩) (own := []) (ps := [a0 = a0, (lenI a0) = (lenI a0), (wadd .i64 s6.1 (1 : Int)) = (wadd .i64 s6.1 (1 : Int)), (s6.2 ++ (List.getD a0 (Int.toNat s6.1) ([] : List Nat))) = (s6.2 ++ (List.getD a0 (Int.toNat s6.1) ([] : List Nat)))]) (st' := ⟨[(6, .one (.all 0)), (25, .one (.dat (.sl (.sl (.flt .f32))) a0)), (26, .one (.dat (.int .i64) (lenI a0))), (27, .one (.dat (.int .i64) (wadd .i64 s6.1 (1 : Int))))], [(0, .seq (.flt .f32) (s6.2 ++ (List.getD a0 (Int.toNat s6.1) ([] : List Nat))))], 1⟩) hO (fun h => by cases h) (by kernel_rfl) ⟨rfl, rfl, rfl, rfl, trivial⟩⟩)
      · refine HT.cond0 rfl hb12 ?_
        have hx10 := of_some hx10
        subst hx10
        refine (Le.cv (s := ⟨[(0, 0)], [], [], false⟩) (own := []) (ps := [s6.2 = s6.2]) (st' := ⟨[(6, .one (.all 0))], [(0, .seq (.flt .f32) s6.2)], 1⟩) hO (fun h => by cases h) (by kernel_rfl) ⟨rfl, trivial⟩).ht ?_
        exact HT.exit (qThenE (qLoopE (hk11 s6.2 rfl)))
  · refine HT.reg1 [0, 3, 9, 10, 11, 12] [⟨none, .no⟩] ⟨[(0, .one (.dat (.sl (.sl (.flt .f32))) a0)), (3, .one (.dat (.int .i64) s1.1)), (9, .one (.dat (.sl (.sl (.flt .f32))) a0)), (10, .one (.dat (.int .i64) (lenI a0))), (11, .one (.dat (.int .i64) s1.2)), (12, .one (.dat .bool (decide (s1.2 < (lenI a0)))))], [], 0⟩ hP hN (by kernel_rfl) allNil ?_
    refine HT.seq ?_
    rcases of_bif hx17 with ⟨hb19, hx17⟩ | ⟨hb19, hx17⟩
    · refine HT.cond1 rfl hb19 ?_
      refine HT.skip (qThen ?_)
      refine HT.seq ?_
      refine HT.block ?_
      obtain ⟨hg20, hx17⟩ := of_guard hx17
      refine HT.reg1 [0, 3, 5, 9, 10, 11] [⟨none, .no⟩, ⟨none, .no⟩, ⟨none, .no⟩] ⟨[(0, .one (.dat (.sl (.sl (.flt .f32))) a0)), (3, .one (.dat (.int .i64) s1.1)), (5, .one (.dat (.sl (.flt .f32)) (List.getD a0 (Int.toNat s1.2) ([] : List Nat)))), (9, .one (.dat (.sl (.sl (.flt .f32))) a0)), (10, .one (.dat (.int .i64) (lenI a0))), (11, .one (.dat (.int .i64) s1.2))], [], 0⟩ hP hN (by kernel_rfl) (allCons hg20 allNil) ?_
      refine HT.reg1 [0, 3, 9, 10, 11] [⟨none, .no⟩, ⟨none, .no⟩, ⟨none, .no⟩, ⟨none, .no⟩, ⟨none, .no⟩] ⟨[(0, .one (.dat (.sl (.sl (.flt .f32))) a0)), (3, .one (.dat (.int .i64) (wadd .i64 s1.1 (lenI (List.getD a0 (Int.toNat s1.2) ([] : List Nat)))))), (9, .one (.dat (.sl (.sl (.flt .f32))) a0)), (10, .one (.dat (.int .i64) (lenI a0))), (11, .one (.dat (.int .i64) s1.2))], [], 0⟩ hP hN (by kernel_rfl) allNil ?_
      refine HT.reg1 [0, 3, 9, 10, 11, 20] [⟨none, .no⟩, ⟨none, .no⟩] ⟨[(0, .one (.dat (.sl (.sl (.flt .f32))) a0)), (3, .one (.dat (.int .i64) (wadd .i64 s1.1 (lenI (List.getD a0 (Int.toNat s1.2) ([] : List Nat)))))), (9, .one (.dat (.sl (.sl (.flt .f32))) a0)), (10, .one (.dat (.int .i64) (lenI a0))), (11, .one (.dat (.int .i64) s1.2)), (20, .one (.dat .bool (decide ((wadd .i64 s1.1 (lenI (List.getD a0 (Int.toNat s1.2) ([] : List Nat)))) < (0 : Int)))))], [], 0⟩ hP hN (by kernel_rfl) allNil ?_
      rcases of_bif hx17 with ⟨hb21, hx17⟩ | ⟨hb21, hx17⟩
      · refine HT.cond1 rfl hb21 ?_
        cases hx17
      · refine HT.cond0 rfl hb21 ?_
        refine HT.skip (qBlock (qThen ?_))
        have hx17 := of_some hx17
        subst hx17
        refine HT.reg (rs := [⟨none, .no⟩, ⟨none, .no⟩]) (st' := ⟨[(11, .one (.dat (.int .i64) (wadd .i64 s1.2 (1 : Int)))), (22, .one (.dat (.int .i64) (wadd .i64 s1.2 (1 : Int)))), (0, .one (.dat (.sl (.sl (.flt .f32))) a0)), (3, .one (.dat (.int .i64) (wadd .i64 s1.1 (lenI (List.getD a0 (Int.toNat s1.2) ([] : List Nat)))))), (9, .one (.dat (.sl (.sl (.flt .f32))) a0)), (10, .one (.dat (.int .i64) (lenI a0))), (11, .one (.dat (.int .i64) s1.2)), (20, .one (.dat .bool (decide ((wadd .i64 s1.1 (lenI (List.getD a0 (Int.toNat s1.2) ([] : List Nat)))) < (0 : Int)))))], [], 0⟩) hP hN (by kernel_rfl) allNil (qLoopN ⟨((wadd .i64 s1.1 (lenI (List.getD a0 (Int.toNat s1.2) ([] : List Nat)))), (wadd .i64 s1.2 (1 : Int))), rfl, Le.cv (s := ⟨[], [], [], false⟩) (own := []) (ps := [a0 = a0, (wadd .i64 s1.1 (lenI (List.getD a0 (Int.toNat s1.2) ([] : List Nat)))) = (wadd .i64 s1.1 (lenI (List.getD a0 (Int.toNat s1.2) ([] : List Nat)))), a0 = a0, (lenI a0) = (lenI a0), (wadd .i64 s1.2 (1 : Int)) = (wadd .i64 s1.2 (1 : Int))]) (st' := ⟨[(0, .one (.dat (.sl (.sl (.flt .f32))) a0)), (3, .one (.dat (.int .i64) (wadd .i64 s1.1 (lenI (List.getD a0 (Int.toNat s1.2) ([] : List Nat)))))), (9, .one (.dat (.sl (.sl (.flt .f32))) a0)), (10, .one (.dat (.int .i64) (lenI a0))), (11, .one (.dat (.int .i64) (wadd .i64 s1.2 (1 : Int))))], [], 0⟩) hO (fun h => by cases h) (by kernel_rfl) ⟨rfl, rfl, rfl, rfl, rfl, trivial⟩⟩)
    · refine HT.cond0 rfl hb19 ?_
      have hx17 := of_some hx17
      subst hx17
      refine (Le.cv (s := ⟨[], [], [], false⟩) (own := []) (ps := [a0 = a0, s1.1 = s1.1]) (st' := ⟨[(0, .one (.dat (.sl (.sl (.flt .f32))) a0)), (3, .one (.dat (.int .i64) s1.1))], [], 0⟩) hO (fun h => by cases h) (by kernel_rfl) ⟨rfl, rfl, trivial⟩).ht ?_
      exact HT.exit (qThenE (qLoopE (hk18 s1.1 rfl)))

noncomputable def impl_IsFinite (a0 : Nat) : Option (Bool) :=
  some (feq .f32 (fop .sub .f32 a0 a0) (0 : Nat))

theorem f106_ok {a0 : Nat} {r : Bool} (hr : impl_IsFinite a0 = some r) : CallOK Try.prog 106 [.imm (.flt .f32) a0] [⟨false, .bool, r⟩] [] := by
  unfold impl_IsFinite at hr
  refine CallOK.of_body (ts := [(false, .bool)]) Try.func106 rfl (by kernel_rfl) (Nat.le_of_ble_eq_true (by kernel_rfl)) fun cx hP hN hO hF => ?_
  have hO : cx.own.map Prod.fst = [] := hO
  have hF := hF rfl
  show HT cx ⟨[(0, .one (.dat (.flt .f32) a0))], [], 0⟩ _ _
  refine HT.reg1 [0] [⟨none, .no⟩] ⟨[(0, .one (.dat (.flt .f32) a0))], [], 0⟩ hP hN (by kernel_rfl) allNil ?_
  refine HT.reg1 [2] [⟨none, .no⟩, ⟨none, .no⟩, ⟨none, .no⟩, ⟨none, .no⟩, ⟨none, .no⟩] ⟨[(2, .one (.dat .bool (feq .f32 (fop .sub .f32 a0 a0) (0 : Nat))))], [], 0⟩ hP hN (by kernel_rfl) allNil ?_
  have hr := of_some hr
  subst hr
  exact HT.ret ⟨[.one (.dat .bool (feq .f32 (fop .sub .f32 a0 a0) (0 : Nat)))], [], [], by kernel_rfl, by kernel_rfl, rfl, by kernel_rfl, by kernel_rfl, trivial⟩

noncomputable def impl_areFinite_1 (a0 : Nat) : Option (Bool) :=
  (impl_IsFinite a0).bind fun y1 =>
  some (!y1)

theorem f105_ok {a0 : Nat} {r : Bool} (hr : impl_areFinite_1 a0 = some r) : CallOK Try.prog 105 [.imm (.flt .f32) a0] [⟨false, .bool, r⟩] [] := by
  unfold impl_areFinite_1 at hr
  refine CallOK.of_body (ts := [(false, .bool)]) Try.func105 rfl (by kernel_rfl) (Nat.le_of_ble_eq_true (by kernel_rfl)) fun cx hP hN hO hF => ?_
  have hO : cx.own.map Prod.fst = [] := hO
  have hF := hF rfl
  show HT cx ⟨[(0, .one (.dat (.flt .f32) a0))], [], 0⟩ _ _
  refine HT.reg1 [0] [⟨none, .no⟩] ⟨[(0, .one (.dat (.flt .f32) a0))], [], 0⟩ hP hN (by kernel_rfl) allNil ?_
  obtain ⟨y1, hc2, hr⟩ := of_bind hr
  refine HT.reg1 [2] [⟨none, .no⟩, ⟨none, .call [.imm (.flt .f32)] [⟨false, .bool, y1⟩] []⟩, ⟨none, .no⟩, ⟨none, .no⟩] ⟨[(2, .one (.dat .bool (!y1)))], [], 0⟩ hP hN (by kernel_rfl) (allCons (f106_ok hc2) allNil) ?_
  have hr := of_some hr
  subst hr
  exact HT.ret ⟨[.one (.dat .bool (!y1))], [], [], by kernel_rfl, by kernel_rfl, rfl, by kernel_rfl, by kernel_rfl, trivial⟩

noncomputable def slices_IndexFunc___float32_float32_fn1_impl_areFinite_1_B1 (a0 : List Nat) (s1 : Int) : Option ((Int) ⊕ (Unit ⊕ Int)) :=
  bif (decide (s1 < (lenI a0))) then
    guardP ((0 : Int) ≤ s1 ∧ s1 < lenI a0) (
      (impl_areFinite_1 (List.getD a0 (Int.toNat s1) (0 : Nat))).bind fun y10 =>
      bif y10 then
        some (.inr (.inr s1))
      else
        some (.inl (wadd .i64 s1 (1 : Int))))
  else
    some (.inr (.inl ()))

noncomputable def slices_IndexFunc___float32_float32_fn1_impl_areFinite_1 (a0 : List Nat) : Option (Int) :=
  (rounds (slices_IndexFunc___float32_float32_fn1_impl_areFinite_1_B1 a0) (0 : Int)).bind fun r2 => match r2 with
    | .inl r3 =>
      some (-1 : Int)
    | .inr r4 =>
      some r4

theorem f128_fn1_impl_areFinite_1_ok {a0 : List Nat} {r : Int} (hr : slices_IndexFunc___float32_float32_fn1_impl_areFinite_1 a0 = some r) : CallOK Try.prog 128 [.imm (.sl (.flt .f32)) a0, .fn 105] [⟨false, (.int .i64), r⟩] [] := by
  unfold slices_IndexFunc___float32_float32_fn1_impl_areFinite_1 at hr
  refine CallOK.of_body (ts := [(false, (.int .i64))]) Try.func128 rfl (by kernel_rfl) (Nat.le_of_ble_eq_true (by kernel_rfl)) fun cx hP hN hO hF => ?_
  have hO : cx.own.map Prod.fst = [] := hO
  have hF := hF rfl
  show HT cx ⟨[(0, .one (.dat (.sl (.flt .f32)) a0)), (1, .one (.fn 105))], [], 0⟩ _ _
  refine HT.reg1 [0, 1] [⟨none, .no⟩] ⟨[(0, .one (.dat (.sl (.flt .f32)) a0)), (1, .one (.fn 105))], [], 0⟩ hP hN (by kernel_rfl) allNil ?_
  refine HT.seq ?_
  refine HT.reg1 [0, 1, 7, 8] [⟨none, .no⟩, ⟨none, .no⟩, ⟨none, .no⟩] ⟨[(0, .one (.dat (.sl (.flt .f32)) a0)), (1, .one (.fn 105)), (7, .one (.dat (.int .i64) (lenI a0))), (8, .one (.dat (.int .i64) (0 : Int)))], [], 0⟩ hP hN (by kernel_rfl) allNil ?_
  refine HT.block ?_
  obtain ⟨r2, hL13, hr⟩ := of_bind hr
  refine (Le.cv (s := ⟨[], [], [], false⟩) (own := []) (ps := [a0 = a0, (lenI a0) = (lenI a0), (0 : Int) = (0 : Int)]) (st' := ⟨[(0, .one (.dat (.sl (.flt .f32)) a0)), (1, .one (.fn 105)), (7, .one (.dat (.int .i64) (lenI a0))), (8, .one (.dat (.int .i64) (0 : Int)))], [], 0⟩) hO (fun h => by cases h) (by kernel_rfl) ⟨rfl, rfl, rfl, trivial⟩).ht ?_
  refine HT.loopE (s := (0 : Int)) (fun (s1 : Int) => ⟨[(0, .one (.dat (.sl (.flt .f32)) a0)), (1, .one (.fn 105)), (7, .one (.dat (.int .i64) (lenI a0))), (8, .one (.dat (.int .i64) s1))], [], 0⟩) (fun (r2 : Unit ⊕ Int) => match r2 with | .inl r3 => (.exit 0, ⟨[], [], 0⟩) | .inr r4 => (.ret, ⟨[(4, .one (.dat (.int .i64) r4))], [], 0⟩)) hL13 ?_ (fun s1 x5 hx6 hk7 => ?_)
  · rcases r2 with r3 | r4
    · refine (qBlockX (qThen ?_))
      refine HT.reg1 [4] [⟨none, .no⟩] ⟨[(4, .one (.dat (.int .i64) (-1 : Int)))], [], 0⟩ hP hN (by kernel_rfl) allNil ?_
      have hr := of_some hr
      subst hr
      exact HT.ret ⟨[.one (.dat (.int .i64) (-1 : Int))], [], [], by kernel_rfl, by kernel_rfl, rfl, by kernel_rfl, by kernel_rfl, trivial⟩
    · have hr := of_some hr
      subst hr
      exact (qBlockR (qThenR ⟨[.one (.dat (.int .i64) r4)], [], [], by kernel_rfl, by kernel_rfl, rfl, by kernel_rfl, by kernel_rfl, trivial⟩))
  · refine HT.reg1 [0, 1, 7, 8, 9] [⟨none, .no⟩] ⟨[(0, .one (.dat (.sl (.flt .f32)) a0)), (1, .one (.fn 105)), (7, .one (.dat (.int .i64) (lenI a0))), (8, .one (.dat (.int .i64) s1)), (9, .one (.dat .bool (decide (s1 < (lenI a0)))))], [], 0⟩ hP hN (by kernel_rfl) allNil ?_
    refine HT.seq ?_
    rcases of_bif hx6 with ⟨hb8, hx6⟩ | ⟨hb8, hx6⟩
    · refine HT.cond1 rfl hb8 ?_
      refine HT.skip (qThen ?_)
      refine HT.seq ?_
      refine HT.block ?_
      refine HT.reg1 [0, 1, 5, 7, 8] [⟨none, .no⟩, ⟨none, .no⟩] ⟨[(0, .one (.dat (.sl (.flt .f32)) a0)), (1, .one (.fn 105)), (5, .one (.dat (.int .i64) s1)), (7, .one (.dat (.int .i64) (lenI a0))), (8, .one (.dat (.int .i64) s1))], [], 0⟩ hP hN (by kernel_rfl) allNil ?_
      obtain ⟨hg9, hx6⟩ := of_guard hx6
      obtain ⟨y10, hc11, hx6⟩ := of_bind hx6
      refine HT.reg1 [0, 1, 5, 7, 8, 16] [⟨none, .no⟩, ⟨none, .no⟩, ⟨none, .no⟩, ⟨none, .no⟩, ⟨none, .no⟩, ⟨none, .call [.imm (.flt .f32)] [⟨false, .bool, y10⟩] []⟩] ⟨[(0, .one (.dat (.sl (.flt .f32)) a0)), (1, .one (.fn 105)), (5, .one (.dat (.int .i64) s1)), (7, .one (.dat (.int .i64) (lenI a0))), (8, .one (.dat (.int .i64) s1)), (16, .one (.dat .bool y10))], [], 0⟩ hP hN (by kernel_rfl) (allCons hg9 (allCons (f105_ok hc11) allNil)) ?_
      rcases of_bif hx6 with ⟨hb12, hx6⟩ | ⟨hb12, hx6⟩
      · refine HT.cond1 rfl hb12 ?_
        refine HT.reg1 [4] [⟨none, .no⟩, ⟨none, .no⟩] ⟨[(4, .one (.dat (.int .i64) s1))], [], 0⟩ hP hN (by kernel_rfl) allNil ?_
        have hx6 := of_some hx6
        subst hx6
        refine (Le.cv (s := ⟨[], [], [], false⟩) (own := []) (ps := [s1 = s1]) (st' := ⟨[(4, .one (.dat (.int .i64) s1))], [], 0⟩) hO (fun h => by cases h) (by kernel_rfl) ⟨rfl, trivial⟩).ht ?_
        exact HT.ret (qBlockR (qThenR (qLoopR (hk7 (.inr s1) rfl))))
      · refine HT.cond0 rfl hb12 ?_
        refine HT.skip (qBlock (qThen ?_))
        have hx6 := of_some hx6
        subst hx6
        refine HT.reg (rs := [⟨none, .no⟩, ⟨none, .no⟩]) (st' := ⟨[(8, .one (.dat (.int .i64) (wadd .i64 s1 (1 : Int)))), (18, .one (.dat (.int .i64) (wadd .i64 s1 (1 : Int)))), (0, .one (.dat (.sl (.flt .f32)) a0)), (1, .one (.fn 105)), (5, .one (.dat (.int .i64) s1)), (7, .one (.dat (.int .i64) (lenI a0))), (8, .one (.dat (.int .i64) s1)), (16, .one (.dat .bool y10))], [], 0⟩) hP hN (by kernel_rfl) allNil (qLoopN ⟨(wadd .i64 s1 (1 : Int)), rfl, Le.cv (s := ⟨[], [], [], false⟩) (own := []) (ps := [a0 = a0, (lenI a0) = (lenI a0), (wadd .i64 s1 (1 : Int)) = (wadd .i64 s1 (1 : Int))]) (st' := ⟨[(0, .one (.dat (.sl (.flt .f32)) a0)), (1, .one (.fn 105)), (7, .one (.dat (.int .i64) (lenI a0))), (8, .one (.dat (.int .i64) (wadd .i64 s1 (1 : Int))))], [], 0⟩) hO (fun h => by cases h) (by kernel_rfl) ⟨rfl, rfl, rfl, trivial⟩⟩)
    · refine HT.cond0 rfl hb8 ?_
      have hx6 := of_some hx6
      subst hx6
      refine (Le.cv (s := ⟨[], [], [], false⟩) (own := []) (ps := []) (st' := ⟨[], [], 0⟩) hO (fun h => by cases h) (by kernel_rfl) trivial).ht ?_
      exact HT.exit (qThenE (qLoopE (hk7 (.inl ()) rfl)))

noncomputable def slices_ContainsFunc___float32_float32_fn1_impl_areFinite_1 (a0 : List Nat) : Option (Bool) :=
  (slices_IndexFunc___float32_float32_fn1_impl_areFinite_1 a0).bind fun y1 =>
  some (decide (y1 ≥ (0 : Int)))

theorem f104_fn1_impl_areFinite_1_ok {a0 : List Nat} {r : Bool} (hr : slices_ContainsFunc___float32_float32_fn1_impl_areFinite_1 a0 = some r) : CallOK Try.prog 104 [.imm (.sl (.flt .f32)) a0, .fn 105] [⟨false, .bool, r⟩] [] := by
  unfold slices_ContainsFunc___float32_float32_fn1_impl_areFinite_1 at hr
  refine CallOK.of_body (ts := [(false, .bool)]) Try.func104 rfl (by kernel_rfl) (Nat.le_of_ble_eq_true (by kernel_rfl)) fun cx hP hN hO hF => ?_
  have hO : cx.own.map Prod.fst = [] := hO
  have hF := hF rfl
  show HT cx ⟨[(0, .one (.dat (.sl (.flt .f32)) a0)), (1, .one (.fn 105))], [], 0⟩ _ _
  refine HT.reg1 [0, 1] [⟨none, .no⟩] ⟨[(0, .one (.dat (.sl (.flt .f32)) a0)), (1, .one (.fn 105))], [], 0⟩ hP hN (by kernel_rfl) allNil ?_
  obtain ⟨y1, hc2, hr⟩ := of_bind hr
  refine HT.reg1 [4] [⟨none, .no⟩, ⟨none, .no⟩, ⟨none, .call [.imm (.sl (.flt .f32)), .fn] [⟨false, (.int .i64), y1⟩] []⟩, ⟨none, .no⟩, ⟨none, .no⟩] ⟨[(4, .one (.dat .bool (decide (y1 ≥ (0 : Int)))))], [], 0⟩ hP hN (by kernel_rfl) (allCons (f128_fn1_impl_areFinite_1_ok hc2) allNil) ?_
  have hr := of_some hr
  subst hr
  exact HT.ret ⟨[.one (.dat .bool (decide (y1 ≥ (0 : Int))))], [], [], by kernel_rfl, by kernel_rfl, rfl, by kernel_rfl, by kernel_rfl, trivial⟩

noncomputable def impl_areFinite (a0 : List Nat) : Option (Bool) :=
  (slices_ContainsFunc___float32_float32_fn1_impl_areFinite_1 a0).bind fun y1 =>
  some (!y1)

theorem f80_ok {a0 : List Nat} {r : Bool} (hr : impl_areFinite a0 = some r) : CallOK Try.prog 80 [.imm (.sl (.flt .f32)) a0] [⟨false, .bool, r⟩] [] := by
  unfold impl_areFinite at hr
  refine CallOK.of_body (ts := [(false, .bool)]) Try.func80 rfl (by kernel_rfl) (Nat.le_of_ble_eq_true (by kernel_rfl)) fun cx hP hN hO hF => ?_
  have hO : cx.own.map Prod.fst = [] := hO
  have hF := hF rfl
  show HT cx ⟨[(0, .one (.dat (.sl (.flt .f32)) a0))], [], 0⟩ _ _
  refine HT.reg1 [0] [⟨none, .no⟩] ⟨[(0, .one (.dat (.sl (.flt .f32)) a0))], [], 0⟩ hP hN (by kernel_rfl) allNil ?_
  obtain ⟨y1, hc2, hr⟩ := of_bind hr
  refine HT.reg1 [2] [⟨none, .no⟩, ⟨none, .call [.imm (.sl (.flt .f32)), .fn] [⟨false, .bool, y1⟩] []⟩, ⟨none, .no⟩, ⟨none, .no⟩] ⟨[(2, .one (.dat .bool (!y1)))], [], 0⟩ hP hN (by kernel_rfl) (allCons (f104_fn1_impl_areFinite_1_ok hc2) allNil) ?_
  have hr := of_some hr
  subst hr
  exact HT.ret ⟨[.one (.dat .bool (!y1))], [], [], by kernel_rfl, by kernel_rfl, rfl, by kernel_rfl, by kernel_rfl, trivial⟩

noncomputable def impl_finiteList_mv0 (a0 : List Nat) : Option (List Nat × Bool) :=
  (impl_areFinite a0).bind fun y1 =>
  bif (!y1) then
    some (([] : List Nat), false)
  else
    some (a0, true)

theorem f48_mv0_ok {a0 : List Nat} {r : List Nat × Bool} (hr : impl_finiteList_mv0 a0 = some r) : CallOK Try.prog 48 [.mv (.sl (.flt .f32)) a0] [⟨true, (.sl (.flt .f32)), r.1⟩, ⟨false, .bool, r.2⟩] [] := by
  unfold impl_finiteList_mv0 at hr
  refine CallOK.of_body (ts := [(true, (.sl (.flt .f32))), (false, .bool)]) Try.func48 rfl (by kernel_rfl) (Nat.le_of_ble_eq_true (by kernel_rfl)) fun cx hP hN hO hF => ?_
  have hO : cx.own.map Prod.fst = [] := hO
  show HT cx ⟨[(0, .one (.all 0))], [(0, .seq (.flt .f32) a0)], 1⟩ _ _
  refine HT.reg1 [0] [⟨none, .no⟩, ⟨none, .no⟩] ⟨[(0, .one (.all 0))], [(0, .seq (.flt .f32) a0)], 1⟩ hP hN (by kernel_rfl) allNil ?_
  refine HT.seq ?_
  obtain ⟨y1, hc2, hr⟩ := of_bind hr
  refine HT.reg1 [0, 6] [⟨none, .no⟩, ⟨none, .call [.imm (.sl (.flt .f32))] [⟨false, .bool, y1⟩] []⟩, ⟨none, .no⟩] ⟨[(0, .one (.all 0)), (6, .one (.dat .bool (!y1)))], [(0, .seq (.flt .f32) a0)], 1⟩ hP hN (by kernel_rfl) (allCons (f80_ok hc2) allNil) ?_
  rcases of_bif hr with ⟨hb3, hr⟩ | ⟨hb3, hr⟩
  · refine HT.cond1 rfl hb3 ?_
    refine HT.reg1 [2, 3] [⟨none, .no⟩, ⟨none, .no⟩] ⟨[(2, .one (.nilS)), (3, .one (.dat .bool false))], [(0, .seq (.flt .f32) a0)], 1⟩ hP hN (by kernel_rfl) allNil ?_
    have hr := of_some hr
    subst hr
    exact HT.ret (qThenR ⟨[.one (.nilS), .one (.dat .bool false)], [], [], by kernel_rfl, by kernel_rfl, rfl, by kernel_rfl, by kernel_rfl, trivial⟩)
  · refine HT.cond0 rfl hb3 ?_
    refine HT.skip (qThen ?_)
    refine HT.reg1 [2, 3] [⟨none, .no⟩, ⟨none, .no⟩, ⟨none, .no⟩] ⟨[(2, .one (.all 0)), (3, .one (.dat .bool true))], [(0, .seq (.flt .f32) a0)], 1⟩ hP hN (by kernel_rfl) allNil ?_
    have hr := of_some hr
    subst hr
    exact HT.ret ⟨[.one (.all 0), .one (.dat .bool true)], [0], [], by kernel_rfl, by kernel_rfl, rfl, by kernel_rfl, by kernel_rfl, trivial⟩

noncomputable def impl_BackwardOf (a0 : Int × Int × List Nat × List Nat × List Nat) (a1 : List Int) : Option (List Nat × Bool) :=
  (impl_Model_has (a0.1, a0.2.1, a0.2.2.1, a0.2.2.2.1, a0.2.2.2.2) a1).bind fun y1 =>
  bif (!y1) then
    some (([] : List Nat), false)
  else
    (impl_Model_backward (a0.1, a0.2.1, a0.2.2.1, a0.2.2.2.1, a0.2.2.2.2) a1).bind fun y4 =>
    (slices_Concat___float32_float32 y4).bind fun y6 =>
    (impl_finiteList_mv0 y6).bind fun y8 =>
    some (y8.1, y8.2)

theorem f14_ok {a0 : Int × Int × List Nat × List Nat × List Nat} {a1 : List Int} {r : List Nat × Bool} (hr : impl_BackwardOf a0 a1 = some r) : CallOK Try.prog 14 [.imm (.st (.pair (.int .i64) (.pair (.int .i64) (.pair (.sl (.flt .f32)) (.pair (.sl (.flt .f32)) (.sl (.flt .f32))))))) a0, .imm (.sl (.int .i64)) a1] [⟨true, (.sl (.flt .f32)), r.1⟩, ⟨false, .bool, r.2⟩] [] := by
  unfold impl_BackwardOf at hr
  refine CallOK.of_body (ts := [(true, (.sl (.flt .f32))), (false, .bool)]) Try.func14 rfl (by kernel_rfl) (Nat.le_of_ble_eq_true (by kernel_rfl)) fun cx hP hN hO hF => ?_
  have hO : cx.own.map Prod.fst = [] := hO
  have hF := hF rfl
  show HT cx ⟨[(0, .agg [.dat (.int .i64) a0.1, .dat (.int .i64) a0.2.1, .dat (.sl (.flt .f32)) a0.2.2.1, .dat (.sl (.flt .f32)) a0.2.2.2.1, .dat (.sl (.flt .f32)) a0.2.2.2.2]), (1, .one (.dat (.sl (.int .i64)) a1))], [], 0⟩ _ _
  refine HT.reg1 [1, 2] [⟨none, .no⟩, ⟨none, .no⟩, ⟨none, .no⟩] ⟨[(1, .one (.dat (.sl (.int .i64)) a1)), (2, .one (.ptr 0 0))], [(0, .box [.dat (.int .i64) a0.1, .dat (.int .i64) a0.2.1, .dat (.sl (.flt .f32)) a0.2.2.1, .dat (.sl (.flt .f32)) a0.2.2.2.1, .dat (.sl (.flt .f32)) a0.2.2.2.2])], 1⟩ hP hN (by kernel_rfl) allNil ?_
  refine HT.seq ?_
  obtain ⟨y1, hc2, hr⟩ := of_bind hr
  refine HT.reg1 [1, 2, 9] [⟨none, .no⟩, ⟨none, .no⟩, ⟨none, .call [.imm (.st (.pair (.int .i64) (.pair (.int .i64) (.pair (.sl (.flt .f32)) (.pair (.sl (.flt .f32)) (.sl (.flt .f32))))))), .imm (.sl (.int .i64))] [⟨false, .bool, y1⟩] []⟩, ⟨none, .no⟩] ⟨[(1, .one (.dat (.sl (.int .i64)) a1)), (2, .one (.ptr 0 0)), (9, .one (.dat .bool (!y1)))], [(0, .box [.dat (.int .i64) a0.1, .dat (.int .i64) a0.2.1, .dat (.sl (.flt .f32)) a0.2.2.1, .dat (.sl (.flt .f32)) a0.2.2.2.1, .dat (.sl (.flt .f32)) a0.2.2.2.2])], 1⟩ hP hN (by kernel_rfl) (allCons (f47_ok hc2) allNil) ?_
  rcases of_bif hr with ⟨hb3, hr⟩ | ⟨hb3, hr⟩
  · refine HT.cond1 rfl hb3 ?_
    refine HT.reg1 [4, 5] [⟨none, .no⟩, ⟨none, .no⟩] ⟨[(4, .one (.nilS)), (5, .one (.dat .bool false))], [(0, .box [.dat (.int .i64) a0.1, .dat (.int .i64) a0.2.1, .dat (.sl (.flt .f32)) a0.2.2.1, .dat (.sl (.flt .f32)) a0.2.2.2.1, .dat (.sl (.flt .f32)) a0.2.2.2.2])], 1⟩ hP hN (by kernel_rfl) allNil ?_
    have hr := of_some hr
    subst hr
    exact HT.ret (qThenR ⟨[.one (.nilS), .one (.dat .bool false)], [], [], by kernel_rfl, by kernel_rfl, rfl, by kernel_rfl, by kernel_rfl, trivial⟩)
  · refine HT.cond0 rfl hb3 ?_
    refine HT.skip (qThen ?_)
    obtain ⟨y4, hc5, hr⟩ := of_bind hr
    obtain ⟨y6, hc7, hr⟩ := of_bind hr
    obtain ⟨y8, hc9, hr⟩ := of_bind hr
    refine HT.reg1 [4, 5] [⟨none, .no⟩, ⟨none, .no⟩, ⟨none, .call [.imm (.st (.pair (.int .i64) (.pair (.int .i64) (.pair (.sl (.flt .f32)) (.pair (.sl (.flt .f32)) (.sl (.flt .f32))))))), .imm (.sl (.int .i64))] [⟨false, (.sl (.sl (.flt .f32))), y4⟩] []⟩, ⟨none, .call [.imm (.sl (.sl (.flt .f32)))] [⟨true, (.sl (.flt .f32)), y6⟩] []⟩, ⟨none, .call [.mv (.sl (.flt .f32))] [⟨true, (.sl (.flt .f32)), y8.1⟩, ⟨false, .bool, y8.2⟩] []⟩, ⟨none, .no⟩, ⟨none, .no⟩, ⟨none, .no⟩, ⟨none, .no⟩] ⟨[(4, .one (.all 2)), (5, .one (.dat .bool y8.2))], [(1, .gone), (2, .seq (.flt .f32) y8.1), (1, .seq (.flt .f32) y6), (0, .box [.dat (.int .i64) a0.1, .dat (.int .i64) a0.2.1, .dat (.sl (.flt .f32)) a0.2.2.1, .dat (.sl (.flt .f32)) a0.2.2.2.1, .dat (.sl (.flt .f32)) a0.2.2.2.2])], 3⟩ hP hN (by kernel_rfl) (allCons (f50_ok hc5) (allCons (f49_ok hc7) (allCons (f48_mv0_ok hc9) allNil))) ?_
    have hr := of_some hr
    subst hr
    exact HT.ret ⟨[.one (.all 2), .one (.dat .bool y8.2)], [2], [], by kernel_rfl, by kernel_rfl, rfl, by kernel_rfl, by kernel_rfl, trivial⟩

noncomputable def laws_sameFloat (a0 : Nat) (a1 : Nat) : Option (Bool) :=
  (show Option (Bool) from
    bif (!(feq .f64 a0 a0)) then
      some true
    else
      some (!(feq .f64 a1 a1))).bind fun v1 =>
  bif v1 then
    (show Option (Bool) from
      bif (!(feq .f64 a0 a0)) then
        some (!(feq .f64 a1 a1))
      else
        some false).bind fun v5 =>
    some v5
  else
    (show Option (Bool) from
      bif (feq .f64 a0 (0 : Nat)) then
        some (feq .f64 a1 (0 : Nat))
      else
        some false).bind fun v9 =>
    bif v9 then
      some ((fgt .f64 (fop .quo .f64 (4607182418800017408 : Nat) a0) (0 : Nat)) == (fgt .f64 (fop .quo .f64 (4607182418800017408 : Nat) a1) (0 : Nat)))
    else
      some (feq .f64 a0 a1)

theorem f51_ok {a0 : Nat} {a1 : Nat} {r : Bool} (hr : laws_sameFloat a0 a1 = some r) : CallOK Try.prog 51 [.imm (.flt .f64) a0, .imm (.flt .f64) a1] [⟨false, .bool, r⟩] [] := by
  unfold laws_sameFloat at hr
  refine CallOK.of_body (ts := [(false, .bool)]) Try.func51 rfl (by kernel_rfl) (Nat.le_of_ble_eq_true (by kernel_rfl)) fun cx hP hN hO hF => ?_
  have hO : cx.own.map Prod.fst = [] := hO
  have hF := hF rfl
  show HT cx ⟨[(0, .one (.dat (.flt .f64) a0)), (1, .one (.dat (.flt .f64) a1))], [], 0⟩ _ _
  refine HT.reg1 [0, 1] [⟨none, .no⟩] ⟨[(0, .one (.dat (.flt .f64) a0)), (1, .one (.dat (.flt .f64) a1))], [], 0⟩ hP hN (by kernel_rfl) allNil ?_
  refine HT.seq ?_
  obtain ⟨v1', hT3, hr⟩ := of_bind hr
  refine HT.join (fun (v1 : Bool) => ⟨[(0, .one (.dat (.flt .f64) a0)), (1, .one (.dat (.flt .f64) a1)), (12, .one (.dat .bool v1))], [], 0⟩) (fun v => v = v1') (fun v1 hv2 => ?_) (fun cont => ?_)
  · subst hv2
    rcases of_bif hr with ⟨hb4, hr⟩ | ⟨hb4, hr⟩
    · refine HT.cond1 rfl hb4 ?_
      obtain ⟨v5', hT7, hr⟩ := of_bind hr
      refine HT.join (fun (v5 : Bool) => ⟨[(4, .one (.dat .bool v5))], [], 0⟩) (fun v => v = v5') (fun v5 hv6 => ?_) (fun cont => ?_)
      · subst hv6
        have hr := of_some hr
        subst hr
        exact HT.ret (qThenR ⟨[.one (.dat .bool v5)], [], [], by kernel_rfl, by kernel_rfl, rfl, by kernel_rfl, by kernel_rfl, trivial⟩)
      · rcases of_bif hT7 with ⟨hb8, hT7⟩ | ⟨hb8, hT7⟩
        · refine HT.reg (rs := [⟨none, .no⟩, ⟨none, .no⟩, ⟨none, .no⟩, ⟨none, .no⟩, ⟨some true, .no⟩, ⟨some true, .no⟩, ⟨some true, .no⟩, ⟨none, .tv true⟩, ⟨none, .no⟩]) (st' := ⟨[(4, .one (.dat .bool (!(feq .f64 a1 a1)))), (20, .one (.dat .bool (!(feq .f64 a1 a1)))), (19, .one (.dat .bool (!(feq .f64 a1 a1)))), (18, .one (.dat (.flt .f64) a1)), (17, .one (.dat (.flt .f64) a1)), (16, .one (.dat .bool (!(feq .f64 a0 a0)))), (15, .one (.dat .bool (!(feq .f64 a0 a0)))), (14, .one (.dat (.flt .f64) a0)), (13, .one (.dat (.flt .f64) a0)), (0, .one (.dat (.flt .f64) a0)), (1, .one (.dat (.flt .f64) a1)), (12, .one (.dat .bool v1))], [], 0⟩) hP hN (by kernel_rfl) (allCons hb8 (allCons hb8 (allCons hb8 (allCons hb8 allNil)))) (qThen ?_)
          exact (Le.cv (s := ⟨[], [], [], false⟩) (own := []) (ps := [(!(feq .f64 a1 a1)) = (!(feq .f64 a1 a1))]) (st' := ⟨[(4, .one (.dat .bool (!(feq .f64 a1 a1))))], [], 0⟩) hO (fun h => by cases h) (by kernel_rfl) ⟨rfl, trivial⟩).ht (cont (!(feq .f64 a1 a1)) (of_some hT7))
        · refine HT.reg (rs := [⟨none, .no⟩, ⟨none, .no⟩, ⟨none, .no⟩, ⟨none, .no⟩, ⟨some false, .no⟩, ⟨some false, .no⟩, ⟨some false, .no⟩, ⟨none, .tv false⟩, ⟨none, .no⟩]) (st' := ⟨[(4, .one (.dat .bool false)), (20, .one (.dat .bool false)), (19, .und), (18, .und), (17, .und), (16, .one (.dat .bool (!(feq .f64 a0 a0)))), (15, .one (.dat .bool (!(feq .f64 a0 a0)))), (14, .one (.dat (.flt .f64) a0)), (13, .one (.dat (.flt .f64) a0)), (0, .one (.dat (.flt .f64) a0)), (1, .one (.dat (.flt .f64) a1)), (12, .one (.dat .bool v1))], [], 0⟩) hP hN (by kernel_rfl) (allCons hb8 (allCons hb8 (allCons hb8 (allCons hb8 allNil)))) (qThen ?_)
          exact (Le.cv (s := ⟨[], [], [], false⟩) (own := []) (ps := [false = false]) (st' := ⟨[(4, .one (.dat .bool false))], [], 0⟩) hO (fun h => by cases h) (by kernel_rfl) ⟨rfl, trivial⟩).ht (cont false (of_some hT7))
    · refine HT.cond0 rfl hb4 ?_
      refine HT.skip (qThen ?_)
      refine HT.seq ?_
      obtain ⟨v9', hT11, hr⟩ := of_bind hr
      refine HT.join (fun (v9 : Bool) => ⟨[(0, .one (.dat (.flt .f64) a0)), (1, .one (.dat (.flt .f64) a1)), (26, .one (.dat .bool v9))], [], 0⟩) (fun v => v = v9') (fun v9 hv10 => ?_) (fun cont => ?_)
      · subst hv10
        rcases of_bif hr with ⟨hb12, hr⟩ | ⟨hb12, hr⟩
        · refine HT.cond1 rfl hb12 ?_
          refine HT.reg1 [4] [⟨none, .no⟩, ⟨none, .no⟩, ⟨none, .no⟩, ⟨none, .no⟩, ⟨none, .no⟩, ⟨none, .no⟩, ⟨none, .no⟩, ⟨none, .no⟩] ⟨[(4, .one (.dat .bool ((fgt .f64 (fop .quo .f64 (4607182418800017408 : Nat) a0) (0 : Nat)) == (fgt .f64 (fop .quo .f64 (4607182418800017408 : Nat) a1) (0 : Nat)))))], [], 0⟩ hP hN (by kernel_rfl) allNil ?_
          have hr := of_some hr
          subst hr
          exact HT.ret (qThenR ⟨[.one (.dat .bool ((fgt .f64 (fop .quo .f64 (4607182418800017408 : Nat) a0) (0 : Nat)) == (fgt .f64 (fop .quo .f64 (4607182418800017408 : Nat) a1) (0 : Nat))))], [], [], by kernel_rfl, by kernel_rfl, rfl, by kernel_rfl, by kernel_rfl, trivial⟩)
        · refine HT.cond0 rfl hb12 ?_
          refine HT.skip (qThen ?_)
          refine HT.reg1 [4] [⟨none, .no⟩, ⟨none, .no⟩, ⟨none, .no⟩, ⟨none, .no⟩] ⟨[(4, .one (.dat .bool (feq .f64 a0 a1)))], [], 0⟩ hP hN (by kernel_rfl) allNil ?_
          have hr := of_some hr
          subst hr
          exact HT.ret ⟨[.one (.dat .bool (feq .f64 a0 a1))], [], [], by kernel_rfl, by kernel_rfl, rfl, by kernel_rfl, by kernel_rfl, trivial⟩
      · rcases of_bif hT11 with ⟨hb13, hT11⟩ | ⟨hb13, hT11⟩
        · refine HT.reg (rs := [⟨none, .no⟩, ⟨none, .no⟩, ⟨none, .no⟩, ⟨some true, .no⟩, ⟨some true, .no⟩, ⟨none, .tv true⟩]) (st' := ⟨[(26, .one (.dat .bool (feq .f64 a1 (0 : Nat)))), (25, .one (.dat .bool (feq .f64 a1 (0 : Nat)))), (24, .one (.dat (.flt .f64) a1)), (23, .one (.dat .bool (feq .f64 a0 (0 : Nat)))), (22, .one (.dat .bool (feq .f64 a0 (0 : Nat)))), (21, .one (.dat (.flt .f64) a0)), (0, .one (.dat (.flt .f64) a0)), (1, .one (.dat (.flt .f64) a1)), (12, .one (.dat .bool v1))], [], 0⟩) hP hN (by kernel_rfl) (allCons hb13 (allCons hb13 (allCons hb13 allNil))) (qThen ?_)
          exact (Le.cv (s := ⟨[], [], [], false⟩) (own := []) (ps := [a0 = a0, a1 = a1, (feq .f64 a1 (0 : Nat)) = (feq .f64 a1 (0 : Nat))]) (st' := ⟨[(0, .one (.dat (.flt .f64) a0)), (1, .one (.dat (.flt .f64) a1)), (26, .one (.dat .bool (feq .f64 a1 (0 : Nat))))], [], 0⟩) hO (fun h => by cases h) (by kernel_rfl) ⟨rfl, rfl, rfl, trivial⟩).ht (cont (feq .f64 a1 (0 : Nat)) (of_some hT11))
        · refine HT.reg (rs := [⟨none, .no⟩, ⟨none, .no⟩, ⟨none, .no⟩, ⟨some false, .no⟩, ⟨some false, .no⟩, ⟨none, .tv false⟩]) (st' := ⟨[(26, .one (.dat .bool false)), (25, .und), (24, .und), (23, .one (.dat .bool (feq .f64 a0 (0 : Nat)))), (22, .one (.dat .bool (feq .f64 a0 (0 : Nat)))), (21, .one (.dat (.flt .f64) a0)), (0, .one (.dat (.flt .f64) a0)), (1, .one (.dat (.flt .f64) a1)), (12, .one (.dat .bool v1))], [], 0⟩) hP hN (by kernel_rfl) (allCons hb13 (allCons hb13 (allCons hb13 allNil))) (qThen ?_)
          exact (Le.cv (s := ⟨[], [], [], false⟩) (own := []) (ps := [a0 = a0, a1 = a1, false = false]) (st' := ⟨[(0, .one (.dat (.flt .f64) a0)), (1, .one (.dat (.flt .f64) a1)), (26, .one (.dat .bool false))], [], 0⟩) hO (fun h => by cases h) (by kernel_rfl) ⟨rfl, rfl, rfl, trivial⟩).ht (cont false (of_some hT11))
  · rcases of_bif hT3 with ⟨hb14, hT3⟩ | ⟨hb14, hT3⟩
    · refine HT.reg (rs := [⟨none, .no⟩, ⟨none, .no⟩, ⟨none, .no⟩, ⟨none, .no⟩, ⟨some true, .no⟩, ⟨some true, .no⟩, ⟨some true, .no⟩, ⟨none, .tv true⟩]) (st' := ⟨[(12, .one (.dat .bool true)), (11, .und), (10, .und), (9, .und), (8, .one (.dat .bool (!(feq .f64 a0 a0)))), (7, .one (.dat .bool (!(feq .f64 a0 a0)))), (6, .one (.dat (.flt .f64) a0)), (5, .one (.dat (.flt .f64) a0)), (0, .one (.dat (.flt .f64) a0)), (1, .one (.dat (.flt .f64) a1))], [], 0⟩) hP hN (by kernel_rfl) (allCons hb14 (allCons hb14 (allCons hb14 (allCons hb14 allNil)))) (qThen ?_)
      exact (Le.cv (s := ⟨[], [], [], false⟩) (own := []) (ps := [a0 = a0, a1 = a1, true = true]) (st' := ⟨[(0, .one (.dat (.flt .f64) a0)), (1, .one (.dat (.flt .f64) a1)), (12, .one (.dat .bool true))], [], 0⟩) hO (fun h => by cases h) (by kernel_rfl) ⟨rfl, rfl, rfl, trivial⟩).ht (cont true (of_some hT3))
    · refine HT.reg (rs := [⟨none, .no⟩, ⟨none, .no⟩, ⟨none, .no⟩, ⟨none, .no⟩, ⟨some false, .no⟩, ⟨some false, .no⟩, ⟨some false, .no⟩, ⟨none, .tv false⟩]) (st' := ⟨[(12, .one (.dat .bool (!(feq .f64 a1 a1)))), (11, .one (.dat .bool (!(feq .f64 a1 a1)))), (10, .one (.dat (.flt .f64) a1)), (9, .one (.dat (.flt .f64) a1)), (8, .one (.dat .bool (!(feq .f64 a0 a0)))), (7, .one (.dat .bool (!(feq .f64 a0 a0)))), (6, .one (.dat (.flt .f64) a0)), (5, .one (.dat (.flt .f64) a0)), (0, .one (.dat (.flt .f64) a0)), (1, .one (.dat (.flt .f64) a1))], [], 0⟩) hP hN (by kernel_rfl) (allCons hb14 (allCons hb14 (allCons hb14 (allCons hb14 allNil)))) (qThen ?_)
      exact (Le.cv (s := ⟨[], [], [], false⟩) (own := []) (ps := [a0 = a0, a1 = a1, (!(feq .f64 a1 a1)) = (!(feq .f64 a1 a1))]) (st' := ⟨[(0, .one (.dat (.flt .f64) a0)), (1, .one (.dat (.flt .f64) a1)), (12, .one (.dat .bool (!(feq .f64 a1 a1))))], [], 0⟩) hO (fun h => by cases h) (by kernel_rfl) ⟨rfl, rfl, rfl, trivial⟩).ht (cont (!(feq .f64 a1 a1)) (of_some hT3))

noncomputable def laws_eqFloat32S_B1 (a0 : List Nat) (a1 : List Nat) (s2 : Int) : Option ((Int) ⊕ (Unit ⊕ Unit)) :=
  bif (decide (s2 < (lenI a0))) then
    guardP ((0 : Int) ≤ s2 ∧ s2 < lenI a0) (
      guardP ((0 : Int) ≤ s2 ∧ s2 < lenI a1) (
        (laws_sameFloat (fconv .f32 .f64 (List.getD a0 (Int.toNat s2) (0 : Nat))) (fconv .f32 .f64 (List.getD a1 (Int.toNat s2) (0 : Nat)))).bind fun y12 =>
        bif (!y12) then
          some (.inr (.inr ()))
        else
          some (.inl (wadd .i64 s2 (1 : Int)))))
  else
    some (.inr (.inl ()))

noncomputable def laws_eqFloat32S (a0 : List Nat) (a1 : List Nat) : Option (Bool) :=
  bif ((lenI a0) != (lenI a1)) then
    some false
  else
    (rounds (laws_eqFloat32S_B1 a0 a1) (0 : Int)).bind fun r3 => match r3 with
      | .inl r4 =>
        some true
      | .inr r5 =>
        some false

theorem f15_ok {a0 : List Nat} {a1 : List Nat} {r : Bool} (hr : laws_eqFloat32S a0 a1 = some r) : CallOK Try.prog 15 [.imm (.sl (.flt .f32)) a0, .imm (.sl (.flt .f32)) a1] [⟨false, .bool, r⟩] [] := by
  unfold laws_eqFloat32S at hr
  refine CallOK.of_body (ts := [(false, .bool)]) Try.func15 rfl (by kernel_rfl) (Nat.le_of_ble_eq_true (by kernel_rfl)) fun cx hP hN hO hF => ?_
  have hO : cx.own.map Prod.fst = [] := hO
  have hF := hF rfl
  show HT cx ⟨[(0, .one (.dat (.sl (.flt .f32)) a0)), (1, .one (.dat (.sl (.flt .f32)) a1))], [], 0⟩ _ _
  refine HT.reg1 [0, 1] [⟨none, .no⟩] ⟨[(0, .one (.dat (.sl (.flt .f32)) a0)), (1, .one (.dat (.sl (.flt .f32)) a1))], [], 0⟩ hP hN (by kernel_rfl) allNil ?_
  refine HT.seq ?_
  refine HT.reg1 [0, 1, 10] [⟨none, .no⟩, ⟨none, .no⟩, ⟨none, .no⟩, ⟨none, .no⟩, ⟨none, .no⟩] ⟨[(0, .one (.dat (.sl (.flt .f32)) a0)), (1, .one (.dat (.sl (.flt .f32)) a1)), (10, .one (.dat .bool ((lenI a0) != (lenI a1))))], [], 0⟩ hP hN (by kernel_rfl) allNil ?_
  rcases of_bif hr with ⟨hb1, hr⟩ | ⟨hb1, hr⟩
  · refine HT.cond1 rfl hb1 ?_
    refine HT.reg1 [4] [⟨none, .no⟩] ⟨[(4, .one (.dat .bool false))], [], 0⟩ hP hN (by kernel_rfl) allNil ?_
    have hr := of_some hr
    subst hr
    exact HT.ret (qThenR ⟨[.one (.dat .bool false)], [], [], by kernel_rfl, by kernel_rfl, rfl, by kernel_rfl, by kernel_rfl, trivial⟩)
  · refine HT.cond0 rfl hb1 ?_
    refine HT.skip (qThen ?_)
    refine HT.seq ?_
    refine HT.reg1 [0, 1, 5] [⟨none, .no⟩] ⟨[(0, .one (.dat (.sl (.flt .f32)) a0)), (1, .one (.dat (.sl (.flt .f32)) a1)), (5, .one (.dat (.int .i64) (0 : Int)))], [], 0⟩ hP hN (by kernel_rfl) allNil ?_
    refine HT.block ?_
    obtain ⟨r3, hL15, hr⟩ := of_bind hr
    refine (Le.cv (s := ⟨[], [], [], false⟩) (own := []) (ps := [a0 = a0, a1 = a1, (0 : Int) = (0 : Int)]) (st' := ⟨[(0, .one (.dat (.sl (.flt .f32)) a0)), (1, .one (.dat (.sl (.flt .f32)) a1)), (5, .one (.dat (.int .i64) (0 : Int)))], [], 0⟩) hO (fun h => by cases h) (by kernel_rfl) ⟨rfl, rfl, rfl, trivial⟩).ht ?_
    refine HT.loopE (s := (0 : Int)) (fun (s2 : Int) => ⟨[(0, .one (.dat (.sl (.flt .f32)) a0)), (1, .one (.dat (.sl (.flt .f32)) a1)), (5, .one (.dat (.int .i64) s2))], [], 0⟩) (fun (r3 : Unit ⊕ Unit) => match r3 with | .inl r4 => (.exit 0, ⟨[], [], 0⟩) | .inr r5 => (.ret, ⟨[(4, .one (.dat .bool false))], [], 0⟩)) hL15 ?_ (fun s2 x6 hx7 hk8 => ?_)
    · rcases r3 with r4 | r5
      · refine (qBlockX (qThen ?_))
        refine HT.reg1 [4] [⟨none, .no⟩] ⟨[(4, .one (.dat .bool true))], [], 0⟩ hP hN (by kernel_rfl) allNil ?_
        have hr := of_some hr
        subst hr
        exact HT.ret ⟨[.one (.dat .bool true)], [], [], by kernel_rfl, by kernel_rfl, rfl, by kernel_rfl, by kernel_rfl, trivial⟩
      · have hr := of_some hr
        subst hr
        exact (qBlockR (qThenR ⟨[.one (.dat .bool false)], [], [], by kernel_rfl, by kernel_rfl, rfl, by kernel_rfl, by kernel_rfl, trivial⟩))
    · refine HT.seq ?_
      refine HT.reg1 [0, 1, 5, 14] [⟨none, .no⟩, ⟨none, .no⟩, ⟨none, .no⟩, ⟨none, .no⟩] ⟨[(0, .one (.dat (.sl (.flt .f32)) a0)), (1, .one (.dat (.sl (.flt .f32)) a1)), (5, .one (.dat (.int .i64) s2)), (14, .one (.dat .bool (decide (s2 < (lenI a0)))))], [], 0⟩ hP hN (by kernel_rfl) allNil ?_
      rcases of_bif hx7 with ⟨hb9, hx7⟩ | ⟨hb9, hx7⟩
      · refine HT.cond1 rfl hb9 ?_
        refine HT.skip (qThen ?_)
        refine HT.seq ?_
        refine HT.block ?_
        obtain ⟨hg10, hx7⟩ := of_guard hx7
        obtain ⟨hg11, hx7⟩ := of_guard hx7
        obtain ⟨y12, hc13, hx7⟩ := of_bind hx7
        refine HT.drw1 [0, 1, 5, 28] 10 [⟨⟨none, .no⟩, []⟩, ⟨⟨none, .no⟩, []⟩, ⟨⟨none, .no⟩, [0, 1]⟩, ⟨⟨none, .no⟩, [0, 1, 2]⟩, ⟨⟨none, .no⟩, [0, 1, 2, 3]⟩, ⟨⟨none, .no⟩, []⟩, ⟨⟨none, .no⟩, []⟩, ⟨⟨none, .no⟩, [5, 6]⟩, ⟨⟨none, .no⟩, [5, 6, 7]⟩, ⟨⟨none, .no⟩, [5, 6, 7, 8]⟩] [[0, 1, 2, 3, 4, 5, 6, 7, 8, 9], [0, 1, 2, 3, 4, 5, 6, 7, 8, 9, 10]] [⟨none, .call [.imm (.flt .f64), .imm (.flt .f64)] [⟨false, .bool, y12⟩] []⟩, ⟨none, .no⟩] ⟨[(0, .one (.dat (.sl (.flt .f32)) a0)), (1, .one (.dat (.sl (.flt .f32)) a1)), (5, .one (.dat (.int .i64) s2)), (28, .one (.dat .bool (!y12)))], [], 0⟩ hP hN (by kernel_rfl) (by kernel_rfl) (allCons hg10 (allCons (show fconvOK .f32 .f64 (List.getD a0 (Int.toNat s2) (0 : Nat)) = true from (fconv_up _)) (allCons hg11 (allCons (show fconvOK .f32 .f64 (List.getD a1 (Int.toNat s2) (0 : Nat)) = true from (fconv_up _)) (allCons (f51_ok hc13) allNil))))) ?_
        rcases of_bif hx7 with ⟨hb14, hx7⟩ | ⟨hb14, hx7⟩
        · refine HT.cond1 rfl hb14 ?_
          refine HT.reg1 [4] [⟨none, .no⟩] ⟨[(4, .one (.dat .bool false))], [], 0⟩ hP hN (by kernel_rfl) allNil ?_
          have hx7 := of_some hx7
          subst hx7
          refine (Le.cv (s := ⟨[], [], [], false⟩) (own := []) (ps := [false = false]) (st' := ⟨[(4, .one (.dat .bool false))], [], 0⟩) hO (fun h => by cases h) (by kernel_rfl) ⟨rfl, trivial⟩).ht ?_
          exact HT.ret (qBlockR (qThenR (qLoopR (hk8 (.inr ()) rfl))))
        · refine HT.cond0 rfl hb14 ?_
          refine HT.skip (qBlock (qThen ?_))
          have hx7 := of_some hx7
          subst hx7
          refine HT.reg (rs := [⟨none, .no⟩, ⟨none, .no⟩, ⟨none, .no⟩]) (st' := ⟨[(5, .one (.dat (.int .i64) (wadd .i64 s2 (1 : Int)))), (16, .one (.dat (.int .i64) (wadd .i64 s2 (1 : Int)))), (15, .one (.dat (.int .i64) s2)), (0, .one (.dat (.sl (.flt .f32)) a0)), (1, .one (.dat (.sl (.flt .f32)) a1)), (5, .one (.dat (.int .i64) s2)), (28, .one (.dat .bool (!y12)))], [], 0⟩) hP hN (by kernel_rfl) allNil (qLoopN ⟨(wadd .i64 s2 (1 : Int)), rfl, Le.cv (s := ⟨[], [], [], false⟩) (own := []) (ps := [a0 = a0, a1 = a1, (wadd .i64 s2 (1 : Int)) = (wadd .i64 s2 (1 : Int))]) (st' := ⟨[(0, .one (.dat (.sl (.flt .f32)) a0)), (1, .one (.dat (.sl (.flt .f32)) a1)), (5, .one (.dat (.int .i64) (wadd .i64 s2 (1 : Int))))], [], 0⟩) hO (fun h => by cases h) (by kernel_rfl) ⟨rfl, rfl, rfl, trivial⟩⟩)
      · refine HT.cond0 rfl hb9 ?_
        have hx7 := of_some hx7
        subst hx7
        refine (Le.cv (s := ⟨[], [], [], false⟩) (own := []) (ps := []) (st' := ⟨[], [], 0⟩) hO (fun h => by cases h) (by kernel_rfl) trivial).ht ?_
        exact HT.exit (qThenE (qLoopE (hk8 (.inl ()) rfl)))

noncomputable def laws_eqModel (a0 : Int × Int × List Nat × List Nat × List Nat) (a1 : Int × Int × List Nat × List Nat × List Nat) : Option (Bool) :=
  bif (a0.1 != a1.1) then
    some false
  else
    bif (a0.2.1 != a1.2.1) then
      some false
    else
      (laws_eqFloat32S a0.2.2.1 a1.2.2.1).bind fun y3 =>
      bif (!y3) then
        some false
      else
        (laws_eqFloat32S a0.2.2.2.1 a1.2.2.2.1).bind fun y6 =>
        bif (!y6) then
          some false
        else
          (laws_eqFloat32S a0.2.2.2.2 a1.2.2.2.2).bind fun y9 =>
          bif (!y9) then
            some false
          else
            some true

theorem f16_ok {a0 : Int × Int × List Nat × List Nat × List Nat} {a1 : Int × Int × List Nat × List Nat × List Nat} {r : Bool} (hr : laws_eqModel a0 a1 = some r) : CallOK Try.prog 16 [.imm (.st (.pair (.int .i64) (.pair (.int .i64) (.pair (.sl (.flt .f32)) (.pair (.sl (.flt .f32)) (.sl (.flt .f32))))))) a0, .imm (.st (.pair (.int .i64) (.pair (.int .i64) (.pair (.sl (.flt .f32)) (.pair (.sl (.flt .f32)) (.sl (.flt .f32))))))) a1] [⟨false, .bool, r⟩] [] := by
  unfold laws_eqModel at hr
  refine CallOK.of_body (ts := [(false, .bool)]) Try.func16 rfl (by kernel_rfl) (Nat.le_of_ble_eq_true (by kernel_rfl)) fun cx hP hN hO hF => ?_
  have hO : cx.own.map Prod.fst = [] := hO
  have hF := hF rfl
  show HT cx ⟨[(0, .agg [.dat (.int .i64) a0.1, .dat (.int .i64) a0.2.1, .dat (.sl (.flt .f32)) a0.2.2.1, .dat (.sl (.flt .f32)) a0.2.2.2.1, .dat (.sl (.flt .f32)) a0.2.2.2.2]), (1, .agg [.dat (.int .i64) a1.1, .dat (.int .i64) a1.2.1, .dat (.sl (.flt .f32)) a1.2.2.1, .dat (.sl (.flt .f32)) a1.2.2.2.1, .dat (.sl (.flt .f32)) a1.2.2.2.2])], [], 0⟩ _ _
  refine HT.reg1 [2, 3] [⟨none, .no⟩, ⟨none, .no⟩, ⟨none, .no⟩] ⟨[(2, .one (.ptr 0 0)), (3, .one (.ptr 1 0))], [(1, .box [.dat (.int .i64) a1.1, .dat (.int .i64) a1.2.1, .dat (.sl (.flt .f32)) a1.2.2.1, .dat (.sl (.flt .f32)) a1.2.2.2.1, .dat (.sl (.flt .f32)) a1.2.2.2.2]), (0, .box [.dat (.int .i64) a0.1, .dat (.int .i64) a0.2.1, .dat (.sl (.flt .f32)) a0.2.2.1, .dat (.sl (.flt .f32)) a0.2.2.2.1, .dat (.sl (.flt .f32)) a0.2.2.2.2])], 2⟩ hP hN (by kernel_rfl) allNil ?_
  refine HT.seq ?_
  refine HT.reg1 [2, 3, 9] [⟨none, .no⟩, ⟨none, .no⟩, ⟨none, .no⟩, ⟨none, .no⟩, ⟨none, .no⟩] ⟨[(2, .one (.ptr 0 0)), (3, .one (.ptr 1 0)), (9, .one (.dat .bool (a0.1 != a1.1)))], [(1, .box [.dat (.int .i64) a1.1, .dat (.int .i64) a1.2.1, .dat (.sl (.flt .f32)) a1.2.2.1, .dat (.sl (.flt .f32)) a1.2.2.2.1, .dat (.sl (.flt .f32)) a1.2.2.2.2]), (0, .box [.dat (.int .i64) a0.1, .dat (.int .i64) a0.2.1, .dat (.sl (.flt .f32)) a0.2.2.1, .dat (.sl (.flt .f32)) a0.2.2.2.1, .dat (.sl (.flt .f32)) a0.2.2.2.2])], 2⟩ hP hN (by kernel_rfl) allNil ?_
  rcases of_bif hr with ⟨hb1, hr⟩ | ⟨hb1, hr⟩
  · refine HT.cond1 rfl hb1 ?_
    refine HT.reg1 [4] [⟨none, .no⟩] ⟨[(4, .one (.dat .bool false))], [(1, .box [.dat (.int .i64) a1.1, .dat (.int .i64) a1.2.1, .dat (.sl (.flt .f32)) a1.2.2.1, .dat (.sl (.flt .f32)) a1.2.2.2.1, .dat (.sl (.flt .f32)) a1.2.2.2.2]), (0, .box [.dat (.int .i64) a0.1, .dat (.int .i64) a0.2.1, .dat (.sl (.flt .f32)) a0.2.2.1, .dat (.sl (.flt .f32)) a0.2.2.2.1, .dat (.sl (.flt .f32)) a0.2.2.2.2])], 2⟩ hP hN (by kernel_rfl) allNil ?_
    have hr := of_some hr
    subst hr
    exact HT.ret (qThenR ⟨[.one (.dat .bool false)], [], [], by kernel_rfl, by kernel_rfl, rfl, by kernel_rfl, by kernel_rfl, trivial⟩)
  · refine HT.cond0 rfl hb1 ?_
    refine HT.skip (qThen ?_)
    refine HT.seq ?_
    refine HT.reg1 [2, 3, 14] [⟨none, .no⟩, ⟨none, .no⟩, ⟨none, .no⟩, ⟨none, .no⟩, ⟨none, .no⟩] ⟨[(2, .one (.ptr 0 0)), (3, .one (.ptr 1 0)), (14, .one (.dat .bool (a0.2.1 != a1.2.1)))], [(1, .box [.dat (.int .i64) a1.1, .dat (.int .i64) a1.2.1, .dat (.sl (.flt .f32)) a1.2.2.1, .dat (.sl (.flt .f32)) a1.2.2.2.1, .dat (.sl (.flt .f32)) a1.2.2.2.2]), (0, .box [.dat (.int .i64) a0.1, .dat (.int .i64) a0.2.1, .dat (.sl (.flt .f32)) a0.2.2.1, .dat (.sl (.flt .f32)) a0.2.2.2.1, .dat (.sl (.flt .f32)) a0.2.2.2.2])], 2⟩ hP hN (by kernel_rfl) allNil ?_
    rcases of_bif hr with ⟨hb2, hr⟩ | ⟨hb2, hr⟩
    · refine HT.cond1 rfl hb2 ?_
      refine HT.reg1 [4] [⟨none, .no⟩] ⟨[(4, .one (.dat .bool false))], [(1, .box [.dat (.int .i64) a1.1, .dat (.int .i64) a1.2.1, .dat (.sl (.flt .f32)) a1.2.2.1, .dat (.sl (.flt .f32)) a1.2.2.2.1, .dat (.sl (.flt .f32)) a1.2.2.2.2]), (0, .box [.dat (.int .i64) a0.1, .dat (.int .i64) a0.2.1, .dat (.sl (.flt .f32)) a0.2.2.1, .dat (.sl (.flt .f32)) a0.2.2.2.1, .dat (.sl (.flt .f32)) a0.2.2.2.2])], 2⟩ hP hN (by kernel_rfl) allNil ?_
      have hr := of_some hr
      subst hr
      exact HT.ret (qThenR ⟨[.one (.dat .bool false)], [], [], by kernel_rfl, by kernel_rfl, rfl, by kernel_rfl, by kernel_rfl, trivial⟩)
    · refine HT.cond0 rfl hb2 ?_
      refine HT.skip (qThen ?_)
      refine HT.seq ?_
      obtain ⟨y3, hc4, hr⟩ := of_bind hr
      refine HT.reg1 [2, 3, 20] [⟨none, .no⟩, ⟨none, .no⟩, ⟨none, .no⟩, ⟨none, .no⟩, ⟨none, .call [.imm (.sl (.flt .f32)), .imm (.sl (.flt .f32))] [⟨false, .bool, y3⟩] []⟩, ⟨none, .no⟩] ⟨[(2, .one (.ptr 0 0)), (3, .one (.ptr 1 0)), (20, .one (.dat .bool (!y3)))], [(1, .box [.dat (.int .i64) a1.1, .dat (.int .i64) a1.2.1, .dat (.sl (.flt .f32)) a1.2.2.1, .dat (.sl (.flt .f32)) a1.2.2.2.1, .dat (.sl (.flt .f32)) a1.2.2.2.2]), (0, .box [.dat (.int .i64) a0.1, .dat (.int .i64) a0.2.1, .dat (.sl (.flt .f32)) a0.2.2.1, .dat (.sl (.flt .f32)) a0.2.2.2.1, .dat (.sl (.flt .f32)) a0.2.2.2.2])], 2⟩ hP hN (by kernel_rfl) (allCons (f15_ok hc4) allNil) ?_
      rcases of_bif hr with ⟨hb5, hr⟩ | ⟨hb5, hr⟩
      · refine HT.cond1 rfl hb5 ?_
        refine HT.reg1 [4] [⟨none, .no⟩] ⟨[(4, .one (.dat .bool false))], [(1, .box [.dat (.int .i64) a1.1, .dat (.int .i64) a1.2.1, .dat (.sl (.flt .f32)) a1.2.2.1, .dat (.sl (.flt .f32)) a1.2.2.2.1, .dat (.sl (.flt .f32)) a1.2.2.2.2]), (0, .box [.dat (.int .i64) a0.1, .dat (.int .i64) a0.2.1, .dat (.sl (.flt .f32)) a0.2.2.1, .dat (.sl (.flt .f32)) a0.2.2.2.1, .dat (.sl (.flt .f32)) a0.2.2.2.2])], 2⟩ hP hN (by kernel_rfl) allNil ?_
        have hr := of_some hr
        subst hr
        exact HT.ret (qThenR ⟨[.one (.dat .bool false)], [], [], by kernel_rfl, by kernel_rfl, rfl, by kernel_rfl, by kernel_rfl, trivial⟩)
      · refine HT.cond0 rfl hb5 ?_
        refine HT.skip (qThen ?_)
        refine HT.seq ?_
        obtain ⟨y6, hc7, hr⟩ := of_bind hr
        refine HT.reg1 [2, 3, 26] [⟨none, .no⟩, ⟨none, .no⟩, ⟨none, .no⟩, ⟨none, .no⟩, ⟨none, .call [.imm (.sl (.flt .f32)), .imm (.sl (.flt .f32))] [⟨false, .bool, y6⟩] []⟩, ⟨none, .no⟩] ⟨[(2, .one (.ptr 0 0)), (3, .one (.ptr 1 0)), (26, .one (.dat .bool (!y6)))], [(1, .box [.dat (.int .i64) a1.1, .dat (.int .i64) a1.2.1, .dat (.sl (.flt .f32)) a1.2.2.1, .dat (.sl (.flt .f32)) a1.2.2.2.1, .dat (.sl (.flt .f32)) a1.2.2.2.2]), (0, .box [.dat (.int .i64) a0.1, .dat (.int .i64) a0.2.1, .dat (.sl (.flt .f32)) a0.2.2.1, .dat (.sl (.flt .f32)) a0.2.2.2.1, .dat (.sl (.flt .f32)) a0.2.2.2.2])], 2⟩ hP hN (by kernel_rfl) (allCons (f15_ok hc7) allNil) ?_
        rcases of_bif hr with ⟨hb8, hr⟩ | ⟨hb8, hr⟩
        · refine HT.cond1 rfl hb8 ?_
          refine HT.reg1 [4] [⟨none, .no⟩] ⟨[(4, .one (.dat .bool false))], [(1, .box [.dat (.int .i64) a1.1, .dat (.int .i64) a1.2.1, .dat (.sl (.flt .f32)) a1.2.2.1, .dat (.sl (.flt .f32)) a1.2.2.2.1, .dat (.sl (.flt .f32)) a1.2.2.2.2]), (0, .box [.dat (.int .i64) a0.1, .dat (.int .i64) a0.2.1, .dat (.sl (.flt .f32)) a0.2.2.1, .dat (.sl (.flt .f32)) a0.2.2.2.1, .dat (.sl (.flt .f32)) a0.2.2.2.2])], 2⟩ hP hN (by kernel_rfl) allNil ?_
          have hr := of_some hr
          subst hr
          exact HT.ret (qThenR ⟨[.one (.dat .bool false)], [], [], by kernel_rfl, by kernel_rfl, rfl, by kernel_rfl, by kernel_rfl, trivial⟩)
        · refine HT.cond0 rfl hb8 ?_
          refine HT.skip (qThen ?_)
          refine HT.seq ?_
          obtain ⟨y9, hc10, hr⟩ := of_bind hr
          refine HT.reg1 [32] [⟨none, .no⟩, ⟨none, .no⟩, ⟨none, .no⟩, ⟨none, .no⟩, ⟨none, .call [.imm (.sl (.flt .f32)), .imm (.sl (.flt .f32))] [⟨false, .bool, y9⟩] []⟩, ⟨none, .no⟩] ⟨[(32, .one (.dat .bool (!y9)))], [(1, .box [.dat (.int .i64) a1.1, .dat (.int .i64) a1.2.1, .dat (.sl (.flt .f32)) a1.2.2.1, .dat (.sl (.flt .f32)) a1.2.2.2.1, .dat (.sl (.flt .f32)) a1.2.2.2.2]), (0, .box [.dat (.int .i64) a0.1, .dat (.int .i64) a0.2.1, .dat (.sl (.flt .f32)) a0.2.2.1, .dat (.sl (.flt .f32)) a0.2.2.2.1, .dat (.sl (.flt .f32)) a0.2.2.2.2])], 2⟩ hP hN (by kernel_rfl) (allCons (f15_ok hc10) allNil) ?_
          rcases of_bif hr with ⟨hb11, hr⟩ | ⟨hb11, hr⟩
          · refine HT.cond1 rfl hb11 ?_
            refine HT.reg1 [4] [⟨none, .no⟩] ⟨[(4, .one (.dat .bool false))], [(1, .box [.dat (.int .i64) a1.1, .dat (.int .i64) a1.2.1, .dat (.sl (.flt .f32)) a1.2.2.1, .dat (.sl (.flt .f32)) a1.2.2.2.1, .dat (.sl (.flt .f32)) a1.2.2.2.2]), (0, .box [.dat (.int .i64) a0.1, .dat (.int .i64) a0.2.1, .dat (.sl (.flt .f32)) a0.2.2.1, .dat (.sl (.flt .f32)) a0.2.2.2.1, .dat (.sl (.flt .f32)) a0.2.2.2.2])], 2⟩ hP hN (by kernel_rfl) allNil ?_
            have hr := of_some hr
            subst hr
            exact HT.ret (qThenR ⟨[.one (.dat .bool false)], [], [], by kernel_rfl, by kernel_rfl, rfl, by kernel_rfl, by kernel_rfl, trivial⟩)
          · refine HT.cond0 rfl hb11 ?_
            refine HT.skip (qThen ?_)
            refine HT.reg1 [4] [⟨none, .no⟩] ⟨[(4, .one (.dat .bool true))], [(1, .box [.dat (.int .i64) a1.1, .dat (.int .i64) a1.2.1, .dat (.sl (.flt .f32)) a1.2.2.1, .dat (.sl (.flt .f32)) a1.2.2.2.1, .dat (.sl (.flt .f32)) a1.2.2.2.2]), (0, .box [.dat (.int .i64) a0.1, .dat (.int .i64) a0.2.1, .dat (.sl (.flt .f32)) a0.2.2.1, .dat (.sl (.flt .f32)) a0.2.2.2.1, .dat (.sl (.flt .f32)) a0.2.2.2.2])], 2⟩ hP hN (by kernel_rfl) allNil ?_
            have hr := of_some hr
            subst hr
            exact HT.ret ⟨[.one (.dat .bool true)], [], [], by kernel_rfl, by kernel_rfl, rfl, by kernel_rfl, by kernel_rfl, trivial⟩

noncomputable def laws_eqInt64S_B1 (a0 : List Int) (a1 : List Int) (s2 : Int) : Option ((Int) ⊕ (Unit ⊕ Unit)) :=
  bif (decide (s2 < (lenI a0))) then
    guardP ((0 : Int) ≤ s2 ∧ s2 < lenI a0) (
      guardP ((0 : Int) ≤ s2 ∧ s2 < lenI a1) (
        bif ((List.getD a0 (Int.toNat s2) (0 : Int)) != (List.getD a1 (Int.toNat s2) (0 : Int))) then
          some (.inr (.inr ()))
        else
          some (.inl (wadd .i64 s2 (1 : Int)))))
  else
    some (.inr (.inl ()))

noncomputable def laws_eqInt64S (a0 : List Int) (a1 : List Int) : Option (Bool) :=
  bif ((lenI a0) != (lenI a1)) then
    some false
  else
    (rounds (laws_eqInt64S_B1 a0 a1) (0 : Int)).bind fun r3 => match r3 with
      | .inl r4 =>
        some true
      | .inr r5 =>
        some false

theorem f17_ok {a0 : List Int} {a1 : List Int} {r : Bool} (hr : laws_eqInt64S a0 a1 = some r) : CallOK Try.prog 17 [.imm (.sl (.int .i64)) a0, .imm (.sl (.int .i64)) a1] [⟨false, .bool, r⟩] [] := by
  unfold laws_eqInt64S at hr
  refine CallOK.of_body (ts := [(false, .bool)]) Try.func17 rfl (by kernel_rfl) (Nat.le_of_ble_eq_true (by kernel_rfl)) fun cx hP hN hO hF => ?_
  have hO : cx.own.map Prod.fst = [] := hO
  have hF := hF rfl
  show HT cx ⟨[(0, .one (.dat (.sl (.int .i64)) a0)), (1, .one (.dat (.sl (.int .i64)) a1))], [], 0⟩ _ _
  refine HT.reg1 [0, 1] [⟨none, .no⟩] ⟨[(0, .one (.dat (.sl (.int .i64)) a0)), (1, .one (.dat (.sl (.int .i64)) a1))], [], 0⟩ hP hN (by kernel_rfl) allNil ?_
  refine HT.seq ?_
  refine HT.reg1 [0, 1, 10] [⟨none, .no⟩, ⟨none, .no⟩, ⟨none, .no⟩, ⟨none, .no⟩, ⟨none, .no⟩] ⟨[(0, .one (.dat (.sl (.int .i64)) a0)), (1, .one (.dat (.sl (.int .i64)) a1)), (10, .one (.dat .bool ((lenI a0) != (lenI a1))))], [], 0⟩ hP hN (by kernel_rfl) allNil ?_
  rcases of_bif hr with ⟨hb1, hr⟩ | ⟨hb1, hr⟩
  · refine HT.cond1 rfl hb1 ?_
    refine HT.reg1 [4] [⟨none, .no⟩] ⟨[(4, .one (.dat .bool false))], [], 0⟩ hP hN (by kernel_rfl) allNil ?_
    have hr := of_some hr
    subst hr
    exact HT.ret (qThenR ⟨[.one (.dat .bool false)], [], [], by kernel_rfl, by kernel_rfl, rfl, by kernel_rfl, by kernel_rfl, trivial⟩)
  · refine HT.cond0 rfl hb1 ?_
    refine HT.skip (qThen ?_)
    refine HT.seq ?_
    refine HT.reg1 [0, 1, 5] [⟨none, .no⟩] ⟨[(0, .one (.dat (.sl (.int .i64)) a0)), (1, .one (.dat (.sl (.int .i64)) a1)), (5, .one (.dat (.int .i64) (0 : Int)))], [], 0⟩ hP hN (by kernel_rfl) allNil ?_
    refine HT.block ?_
    obtain ⟨r3, hL13, hr⟩ := of_bind hr
    refine (Le.cv (s := ⟨[], [], [], false⟩) (own := []) (ps := [a0 = a0, a1 = a1, (0 : Int) = (0 : Int)]) (st' := ⟨[(0, .one (.dat (.sl (.int .i64)) a0)), (1, .one (.dat (.sl (.int .i64)) a1)), (5, .one (.dat (.int .i64) (0 : Int)))], [], 0⟩) hO (fun h => by cases h) (by kernel_rfl) ⟨rfl, rfl, rfl, trivial⟩).ht ?_
    refine HT.loopE (s := (0 : Int)) (fun (s2 : Int) => ⟨[(0, .one (.dat (.sl (.int .i64)) a0)), (1, .one (.dat (.sl (.int .i64)) a1)), (5, .one (.dat (.int .i64) s2))], [], 0⟩) (fun (r3 : Unit ⊕ Unit) => match r3 with | .inl r4 => (.exit 0, ⟨[], [], 0⟩) | .inr r5 => (.ret, ⟨[(4, .one (.dat .bool false))], [], 0⟩)) hL13 ?_ (fun s2 x6 hx7 hk8 => ?_)
    · rcases r3 with r4 | r5
      · refine (qBlockX (qThen ?_))
        refine HT.reg1 [4] [⟨none, .no⟩] ⟨[(4, .one (.dat .bool true))], [], 0⟩ hP hN (by kernel_rfl) allNil ?_
        have hr := of_some hr
        subst hr
        exact HT.ret ⟨[.one (.dat .bool true)], [], [], by kernel_rfl, by kernel_rfl, rfl, by kernel_rfl, by kernel_rfl, trivial⟩
      · have hr := of_some hr
        subst hr
        exact (qBlockR (qThenR ⟨[.one (.dat .bool false)], [], [], by kernel_rfl, by kernel_rfl, rfl, by kernel_rfl, by kernel_rfl, trivial⟩))
    · refine HT.seq ?_
      refine HT.reg1 [0, 1, 5, 14] [⟨none, .no⟩, ⟨none, .no⟩, ⟨none, .no⟩, ⟨none, .no⟩] ⟨[(0, .one (.dat (.sl (.int .i64)) a0)), (1, .one (.dat (.sl (.int .i64)) a1)), (5, .one (.dat (.int .i64) s2)), (14, .one (.dat .bool (decide (s2 < (lenI a0)))))], [], 0⟩ hP hN (by kernel_rfl) allNil ?_
      rcases of_bif hx7 with ⟨hb9, hx7⟩ | ⟨hb9, hx7⟩
      · refine HT.cond1 rfl hb9 ?_
        refine HT.skip (qThen ?_)
        refine HT.seq ?_
        refine HT.block ?_
        obtain ⟨hg10, hx7⟩ := of_guard hx7
        obtain ⟨hg11, hx7⟩ := of_guard hx7
        refine HT.drw1 [0, 1, 5, 25] 8 [⟨⟨none, .no⟩, []⟩, ⟨⟨none, .no⟩, []⟩, ⟨⟨none, .no⟩, [0, 1]⟩, ⟨⟨none, .no⟩, [0, 1, 2]⟩, ⟨⟨none, .no⟩, []⟩, ⟨⟨none, .no⟩, []⟩, ⟨⟨none, .no⟩, [4, 5]⟩, ⟨⟨none, .no⟩, [4, 5, 6]⟩] [[0, 1, 2, 3, 4, 5, 6, 7]] [⟨none, .no⟩] ⟨[(0, .one (.dat (.sl (.int .i64)) a0)), (1, .one (.dat (.sl (.int .i64)) a1)), (5, .one (.dat (.int .i64) s2)), (25, .one (.dat .bool ((List.getD a0 (Int.toNat s2) (0 : Int)) != (List.getD a1 (Int.toNat s2) (0 : Int)))))], [], 0⟩ hP hN (by kernel_rfl) (by kernel_rfl) (allCons hg10 (allCons hg11 allNil)) ?_
        rcases of_bif hx7 with ⟨hb12, hx7⟩ | ⟨hb12, hx7⟩
        · refine HT.cond1 rfl hb12 ?_
          refine HT.reg1 [4] [⟨none, .no⟩] ⟨[(4, .one (.dat .bool false))], [], 0⟩ hP hN (by kernel_rfl) allNil ?_
          have hx7 := of_some hx7
          subst hx7
          refine (Le.cv (s := ⟨[], [], [], false⟩) (own := []) (ps := [false = false]) (st' := ⟨[(4, .one (.dat .bool false))], [], 0⟩) hO (fun h => by cases h) (by kernel_rfl) ⟨rfl, trivial⟩).ht ?_
          exact HT.ret (qBlockR (qThenR (qLoopR (hk8 (.inr ()) rfl))))
        · refine HT.cond0 rfl hb12 ?_
          refine HT.skip (qBlock (qThen ?_))
          have hx7 := of_some hx7
          subst hx7
          refine HT.reg (rs := [⟨none, .no⟩, ⟨none, .no⟩, ⟨none, .no⟩]) (st' := ⟨[(5, .one (.dat (.int .i64) (wadd .i64 s2 (1 : Int)))), (16, .one (.dat (.int .i64) (wadd .i64 s2 (1 : Int)))), (15, .one (.dat (.int .i64) s2)), (0, .one (.dat (.sl (.int .i64)) a0)), (1, .one (.dat (.sl (.int .i64)) a1)), (5, .one (.dat (.int .i64) s2)), (25, .one (.dat .bool ((List.getD a0 (Int.toNat s2) (0 : Int)) != (List.getD a1 (Int.toNat s2) (0 : Int)))))], [], 0⟩) hP hN (by kernel_rfl) allNil (qLoopN ⟨(wadd .i64 s2 (1 : Int)), rfl, Le.cv (s := ⟨[], [], [], false⟩) (own := []) (ps := [a0 = a0, a1 = a1, (wadd .i64 s2 (1 : Int)) = (wadd .i64 s2 (1 : Int))]) (st' := ⟨[(0, .one (.dat (.sl (.int .i64)) a0)), (1, .one (.dat (.sl (.int .i64)) a1)), (5, .one (.dat (.int .i64) (wadd .i64 s2 (1 : Int))))], [], 0⟩) hO (fun h => by cases h) (by kernel_rfl) ⟨rfl, rfl, rfl, trivial⟩⟩)
      · refine HT.cond0 rfl hb9 ?_
        have hx7 := of_some hx7
        subst hx7
        refine (Le.cv (s := ⟨[], [], [], false⟩) (own := []) (ps := []) (st' := ⟨[], [], 0⟩) hO (fun h => by cases h) (by kernel_rfl) trivial).ht ?_
        exact HT.exit (qThenE (qLoopE (hk8 (.inl ()) rfl)))

noncomputable def laws_markFloat32S_B1  (s1 : Int × Int × List Nat) : Option ((Int × Int × List Nat) ⊕ ((Int × List Nat))) :=
  bif (decide (s1.2.1 < (lenI s1.2.2))) then
    guardP ((0 : Int) ≤ s1.2.1 ∧ s1.2.1 < lenI s1.2.2) (
      some (.inl ((wadd .i64 s1.1 (1 : Int)), (wadd .i64 s1.2.1 (1 : Int)), (List.set s1.2.2 (Int.toNat s1.2.1) (fofint .f32 s1.1)))))
  else
    some (.inr (s1.1, s1.2.2))

noncomputable def laws_markFloat32S (a0 : List Nat) (a1 : Int) : Option (Int × List Nat) :=
  (rounds (laws_markFloat32S_B1) (a1, (0 : Int), a0)).bind fun r3 =>
  guardP (List.length r3.2 = List.length a0) (
    some (r3.1, r3.2))

theorem f20_ok {a0 : List Nat} {a1 : Int} {r : Int × List Nat} (hr : laws_markFloat32S a0 a1 = some r) : CallOK Try.prog 20 [.own (.sl (.flt .f32)) a0, .imm (.int .i64) a1] [⟨false, (.int .i64), r.1⟩] [⟨(.sl (.flt .f32)), r.2⟩] := by
  unfold laws_markFloat32S at hr
  refine CallOK.of_body (ts := [(false, (.int .i64))]) Try.func20 rfl (by kernel_rfl) (Nat.le_of_ble_eq_true (by kernel_rfl)) fun cx hP hN hO hF => ?_
  have hO : cx.own.map Prod.fst = [0] := hO
  have hF := hF rfl
  show HT cx ⟨[(0, .one (.all 0)), (1, .one (.dat (.int .i64) a1))], [(0, .seq (.flt .f32) a0)], 1⟩ _ _
  refine HT.reg1 [0, 1] [⟨none, .no⟩] ⟨[(0, .one (.all 0)), (1, .one (.dat (.int .i64) a1))], [(0, .seq (.flt .f32) a0)], 1⟩ hP hN (by kernel_rfl) allNil ?_
  refine HT.seq ?_
  refine HT.reg1 [0, 1, 5] [⟨none, .no⟩] ⟨[(0, .one (.all 0)), (1, .one (.dat (.int .i64) a1)), (5, .one (.dat (.int .i64) (0 : Int)))], [(0, .seq (.flt .f32) a0)], 1⟩ hP hN (by kernel_rfl) allNil ?_
  refine HT.block ?_
  obtain ⟨r2, hL10, hr⟩ := of_bind hr
  refine (Le.cv (s := ⟨[(0, 0)], [], [], false⟩) (own := [0]) (ps := [a1 = a1, (0 : Int) = (0 : Int), a0 = a0]) (st' := ⟨[(0, .one (.all 0)), (1, .one (.dat (.int .i64) a1)), (5, .one (.dat (.int .i64) (0 : Int)))], [(0, .seq (.flt .f32) a0)], 1⟩) hO (fun h => by cases h) (by kernel_rfl) ⟨rfl, rfl, rfl, trivial⟩).ht ?_
  refine HT.loopE (s := (a1, (0 : Int), a0)) (fun (s1 : Int × Int × List Nat) => ⟨[(0, .one (.all 0)), (1, .one (.dat (.int .i64) s1.1)), (5, .one (.dat (.int .i64) s1.2.1))], [(0, .seq (.flt .f32) s1.2.2)], 1⟩) (fun (r3 : (Int × List Nat)) => (.exit 0, ⟨[(1, .one (.dat (.int .i64) r3.1))], [(0, .seq (.flt .f32) r3.2)], 1⟩)) hL10 ?_ (fun s1 x5 hx6 hk7 => ?_)
  · refine (qBlockX (qThen ?_))
    refine HT.reg1 [4] [⟨none, .no⟩, ⟨none, .no⟩] ⟨[(4, .one (.dat (.int .i64) r2.1))], [(0, .seq (.flt .f32) r2.2)], 1⟩ hP hN (by kernel_rfl) allNil ?_
    obtain ⟨hg4, hr⟩ := of_guard hr
    have hr := of_some hr
    subst hr
    exact HT.ret ⟨[.one (.dat (.int .i64) r2.1)], [], [List.length r2.2 = List.length a0], by kernel_rfl, by kernel_rfl, rfl, by kernel_rfl, by kernel_rfl, ⟨hg4, trivial⟩⟩
  · refine HT.seq ?_
    refine HT.reg1 [0, 1, 5, 9] [⟨none, .no⟩, ⟨none, .no⟩, ⟨none, .no⟩, ⟨none, .no⟩] ⟨[(0, .one (.all 0)), (1, .one (.dat (.int .i64) s1.1)), (5, .one (.dat (.int .i64) s1.2.1)), (9, .one (.dat .bool (decide (s1.2.1 < (lenI s1.2.2)))))], [(0, .seq (.flt .f32) s1.2.2)], 1⟩ hP hN (by kernel_rfl) allNil ?_
    rcases of_bif hx6 with ⟨hb8, hx6⟩ | ⟨hb8, hx6⟩
    · refine HT.cond1 rfl hb8 ?_
      refine HT.skip (qThen ?_)
      refine HT.seq ?_
      refine HT.block ?_
      obtain ⟨hg9, hx6⟩ := of_guard hx6
      refine HT.reg1 [0, 1, 5] [⟨none, .no⟩, ⟨none, .no⟩, ⟨none, .no⟩, ⟨none, .no⟩, ⟨none, .no⟩, ⟨none, .no⟩] ⟨[(0, .one (.all 0)), (1, .one (.dat (.int .i64) s1.1)), (5, .one (.dat (.int .i64) s1.2.1))], [(0, .seq (.flt .f32) (List.set s1.2.2 (Int.toNat s1.2.1) (fofint .f32 s1.1))), (0, .seq (.flt .f32) s1.2.2)], 1⟩ hP hN (by kernel_rfl) (allCons hg9 (allCons (natLt hg9) allNil)) ?_
      refine HT.reg (rs := [⟨none, .no⟩, ⟨none, .no⟩, ⟨none, .no⟩]) (st' := ⟨[(1, .one (.dat (.int .i64) (wadd .i64 s1.1 (1 : Int)))), (18, .one (.dat (.int .i64) (wadd .i64 s1.1 (1 : Int)))), (17, .one (.dat (.int .i64) s1.1)), (0, .one (.all 0)), (1, .one (.dat (.int .i64) s1.1)), (5, .one (.dat (.int .i64) s1.2.1))], [(0, .seq (.flt .f32) (List.set s1.2.2 (Int.toNat s1.2.1) (fofint .f32 s1.1))), (0, .seq (.flt .f32) s1.2.2)], 1⟩) hP hN (by kernel_rfl) allNil (qBlock (qThen ?_))
      have hx6 := of_some hx6
      subst hx6
      refine HT.reg (rs := [⟨none, .no⟩, ⟨none, .no⟩, ⟨none, .no⟩]) (st' := ⟨[(5, .one (.dat (.int .i64) (wadd .i64 s1.2.1 (1 : Int)))), (11, .one (.dat (.int .i64) (wadd .i64 s1.2.1 (1 : Int)))), (10, .one (.dat (.int .i64) s1.2.1)), (1, .one (.dat (.int .i64) (wadd .i64 s1.1 (1 : Int)))), (18, .one (.dat (.int .i64) (wadd .i64 s1.1 (1 : Int)))), (17, .one (.dat (.int .i64) s1.1)), (0, .one (.all 0)), (1, .one (.dat (.int .i64) s1.1)), (5, .one (.dat (.int .i64) s1.2.1))], [(0, .seq (.flt .f32) (List.set s1.2.2 (Int.toNat s1.2.1) (fofint .f32 s1.1))), (0, .seq (.flt .f32) s1.2.2)], 1⟩) hP hN (by kernel_rfl) allNil (qLoopN ⟨((wadd .i64 s1.1 (1 : Int)), (wadd .i64 s1.2.1 (1 : Int)), (List.set s1.2.2 (Int.toNat s1.2.1) (fofint .f32 s1.1))), rfl, Le.cv (s := ⟨[(0, 0)], [], [], false⟩) (own := [0]) (ps := [(wadd .i64 s1.1 (1 : Int)) = (wadd .i64 s1.1 (1 : Int)), (wadd .i64 s1.2.1 (1 : Int)) = (wadd .i64 s1.2.1 (1 : Int)), (List.set s1.2.2 (Int.toNat s1.2.1) (fofint .f32 s1.1)) = (List.set s1.2.2 (Int.toNat s1.2.1) (fofint .f32 s1.1))]) (st' := ⟨[(0, .one (.all 0)), (1, .one (.dat (.int .i64) (wadd .i64 s1.1 (1 : Int)))), (5, .one (.dat (.int .i64) (wadd .i64 s1.2.1 (1 : Int))))], [(0, .seq (.flt .f32) (List.set s1.2.2 (Int.toNat s1.2.1) (fofint .f32 s1.1)))], 1⟩) hO (fun h => by cases h) (by kernel_rfl) ⟨rfl, rfl, rfl, trivial⟩⟩)
    · refine HT.cond0 rfl hb8 ?_
      have hx6 := of_some hx6
      subst hx6
      refine (Le.cv (s := ⟨[(0, 0)], [], [], false⟩) (own := [0]) (ps := [s1.1 = s1.1, s1.2.2 = s1.2.2]) (st' := ⟨[(1, .one (.dat (.int .i64) s1.1))], [(0, .seq (.flt .f32) s1.2.2)], 1⟩) hO (fun h => by cases h) (by kernel_rfl) ⟨rfl, rfl, trivial⟩).ht ?_
      exact HT.exit (qThenE (qLoopE (hk7 (s1.1, s1.2.2) rfl)))

noncomputable def laws_markModel (a0 : Int × Int × List Nat × List Nat × List Nat) (a1 : Int) : Option (Int × (Int × Int × List Nat × List Nat × List Nat)) :=
  (laws_markFloat32S a0.2.2.1 a1).bind fun y1 =>
  (laws_markFloat32S a0.2.2.2.1 y1.1).bind fun y3 =>
  (laws_markFloat32S a0.2.2.2.2 y3.1).bind fun y5 =>
  guardP (List.length y1.2 = List.length a0.2.2.1) (
    guardP (List.length y3.2 = List.length a0.2.2.2.1) (
      guardP (List.length y5.2 = List.length a0.2.2.2.2) (
        some (y5.1, a0.1, a0.2.1, y1.2, y3.2, y5.2))))

theorem f18_ok {a0 : Int × Int × List Nat × List Nat × List Nat} {a1 : Int} {r : Int × (Int × Int × List Nat × List Nat × List Nat)} (hr : laws_markModel a0 a1 = some r) : CallOK Try.prog 18 [.own (.st (.pair (.int .i64) (.pair (.int .i64) (.pair (.sl (.flt .f32)) (.pair (.sl (.flt .f32)) (.sl (.flt .f32))))))) a0, .imm (.int .i64) a1] [⟨false, (.int .i64), r.1⟩] [⟨(.st (.pair (.int .i64) (.pair (.int .i64) (.pair (.sl (.flt .f32)) (.pair (.sl (.flt .f32)) (.sl (.flt .f32))))))), r.2⟩] := by
  unfold laws_markModel at hr
  refine CallOK.of_body (ts := [(false, (.int .i64))]) Try.func18 rfl (by kernel_rfl) (Nat.le_of_ble_eq_true (by kernel_rfl)) fun cx hP hN hO hF => ?_
  have hO : cx.own.map Prod.fst = [0, 1, 2] := hO
  have hF := hF rfl
  show HT cx ⟨[(0, .agg [.dat (.int .i64) a0.1, .dat (.int .i64) a0.2.1, .all 0, .all 1, .all 2]), (1, .one (.dat (.int .i64) a1))], [(0, .seq (.flt .f32) a0.2.2.1), (1, .seq (.flt .f32) a0.2.2.2.1), (2, .seq (.flt .f32) a0.2.2.2.2)], 3⟩ _ _
  refine HT.reg1 [1, 2] [⟨none, .no⟩, ⟨none, .no⟩] ⟨[(1, .one (.dat (.int .i64) a1)), (2, .one (.ptr 3 0))], [(3, .box [.dat (.int .i64) a0.1, .dat (.int .i64) a0.2.1, .all 0, .all 1, .all 2]), (0, .seq (.flt .f32) a0.2.2.1), (1, .seq (.flt .f32) a0.2.2.2.1), (2, .seq (.flt .f32) a0.2.2.2.2)], 4⟩ hP hN (by kernel_rfl) allNil ?_
  obtain ⟨y1, hc2, hr⟩ := of_bind hr
  refine HT.reg1 [1, 2] [⟨none, .no⟩, ⟨none, .no⟩, ⟨none, .no⟩, ⟨none, .call [.own (.sl (.flt .f32)), .imm (.int .i64)] [⟨false, (.int .i64), y1.1⟩] [⟨(.sl (.flt .f32)), y1.2⟩]⟩, ⟨none, .no⟩] ⟨[(1, .one (.dat (.int .i64) y1.1)), (2, .one (.ptr 3 0))], [(0, .seq (.flt .f32) y1.2), (3, .box [.dat (.int .i64) a0.1, .dat (.int .i64) a0.2.1, .all 0, .all 1, .all 2]), (0, .seq (.flt .f32) a0.2.2.1), (1, .seq (.flt .f32) a0.2.2.2.1), (2, .seq (.flt .f32) a0.2.2.2.2)], 4⟩ hP hN (by kernel_rfl) (allCons (f20_ok hc2) allNil) ?_
  obtain ⟨y3, hc4, hr⟩ := of_bind hr
  refine HT.reg1 [1, 2] [⟨none, .no⟩, ⟨none, .no⟩, ⟨none, .no⟩, ⟨none, .call [.own (.sl (.flt .f32)), .imm (.int .i64)] [⟨false, (.int .i64), y3.1⟩] [⟨(.sl (.flt .f32)), y3.2⟩]⟩, ⟨none, .no⟩] ⟨[(1, .one (.dat (.int .i64) y3.1)), (2, .one (.ptr 3 0))], [(1, .seq (.flt .f32) y3.2), (0, .seq (.flt .f32) y1.2), (3, .box [.dat (.int .i64) a0.1, .dat (.int .i64) a0.2.1, .all 0, .all 1, .all 2]), (0, .seq (.flt .f32) a0.2.2.1), (1, .seq (.flt .f32) a0.2.2.2.1), (2, .seq (.flt .f32) a0.2.2.2.2)], 4⟩ hP hN (by kernel_rfl) (allCons (f20_ok hc4) allNil) ?_
  obtain ⟨y5, hc6, hr⟩ := of_bind hr
  refine HT.reg1 [1] [⟨none, .no⟩, ⟨none, .no⟩, ⟨none, .no⟩, ⟨none, .call [.own (.sl (.flt .f32)), .imm (.int .i64)] [⟨false, (.int .i64), y5.1⟩] [⟨(.sl (.flt .f32)), y5.2⟩]⟩, ⟨none, .no⟩] ⟨[(1, .one (.dat (.int .i64) y5.1))], [(2, .seq (.flt .f32) y5.2), (1, .seq (.flt .f32) y3.2), (0, .seq (.flt .f32) y1.2), (3, .box [.dat (.int .i64) a0.1, .dat (.int .i64) a0.2.1, .all 0, .all 1, .all 2]), (0, .seq (.flt .f32) a0.2.2.1), (1, .seq (.flt .f32) a0.2.2.2.1), (2, .seq (.flt .f32) a0.2.2.2.2)], 4⟩ hP hN (by kernel_rfl) (allCons (f20_ok hc6) allNil) ?_
  refine HT.reg1 [4] [⟨none, .no⟩, ⟨none, .no⟩] ⟨[(4, .one (.dat (.int .i64) y5.1))], [(2, .seq (.flt .f32) y5.2), (1, .seq (.flt .f32) y3.2), (0, .seq (.flt .f32) y1.2), (3, .box [.dat (.int .i64) a0.1, .dat (.int .i64) a0.2.1, .all 0, .all 1, .all 2]), (0, .seq (.flt .f32) a0.2.2.1), (1, .seq (.flt .f32) a0.2.2.2.1), (2, .seq (.flt .f32) a0.2.2.2.2)], 4⟩ hP hN (by kernel_rfl) allNil ?_
  obtain ⟨hg7, hr⟩ := of_guard hr
  obtain ⟨hg8, hr⟩ := of_guard hr
  obtain ⟨hg9, hr⟩ := of_guard hr
  have hr := of_some hr
  subst hr
  exact HT.ret ⟨[.one (.dat (.int .i64) y5.1)], [], [List.length y1.2 = List.length a0.2.2.1, List.length y3.2 = List.length a0.2.2.2.1, List.length y5.2 = List.length a0.2.2.2.2], by kernel_rfl, by kernel_rfl, rfl, by kernel_rfl, by kernel_rfl, ⟨hg7, hg8, hg9, trivial⟩⟩

noncomputable def laws_markInt64S_B1  (s1 : Int × Int × List Int) : Option ((Int × Int × List Int) ⊕ ((Int × List Int))) :=
  bif (decide (s1.2.1 < (lenI s1.2.2))) then
    guardP ((0 : Int) ≤ s1.2.1 ∧ s1.2.1 < lenI s1.2.2) (
      some (.inl ((wadd .i64 s1.1 (1 : Int)), (wadd .i64 s1.2.1 (1 : Int)), (List.set s1.2.2 (Int.toNat s1.2.1) s1.1))))
  else
    some (.inr (s1.1, s1.2.2))

noncomputable def laws_markInt64S (a0 : List Int) (a1 : Int) : Option (Int × List Int) :=
  (rounds (laws_markInt64S_B1) (a1, (0 : Int), a0)).bind fun r3 =>
  guardP (List.length r3.2 = List.length a0) (
    some (r3.1, r3.2))

theorem f19_ok {a0 : List Int} {a1 : Int} {r : Int × List Int} (hr : laws_markInt64S a0 a1 = some r) : CallOK Try.prog 19 [.own (.sl (.int .i64)) a0, .imm (.int .i64) a1] [⟨false, (.int .i64), r.1⟩] [⟨(.sl (.int .i64)), r.2⟩] := by
  unfold laws_markInt64S at hr
  refine CallOK.of_body (ts := [(false, (.int .i64))]) Try.func19 rfl (by kernel_rfl) (Nat.le_of_ble_eq_true (by kernel_rfl)) fun cx hP hN hO hF => ?_
  have hO : cx.own.map Prod.fst = [0] := hO
  have hF := hF rfl
  show HT cx ⟨[(0, .one (.all 0)), (1, .one (.dat (.int .i64) a1))], [(0, .seq (.int .i64) a0)], 1⟩ _ _
  refine HT.reg1 [0, 1] [⟨none, .no⟩] ⟨[(0, .one (.all 0)), (1, .one (.dat (.int .i64) a1))], [(0, .seq (.int .i64) a0)], 1⟩ hP hN (by kernel_rfl) allNil ?_
  refine HT.seq ?_
  refine HT.reg1 [0, 1, 5] [⟨none, .no⟩] ⟨[(0, .one (.all 0)), (1, .one (.dat (.int .i64) a1)), (5, .one (.dat (.int .i64) (0 : Int)))], [(0, .seq (.int .i64) a0)], 1⟩ hP hN (by kernel_rfl) allNil ?_
  refine HT.block ?_
  obtain ⟨r2, hL10, hr⟩ := of_bind hr
  refine (Le.cv (s := ⟨[(0, 0)], [], [], false⟩) (own := [0]) (ps := [a1 = a1, (0 : Int) = (0 : Int), a0 = a0]) (st' := ⟨[(0, .one (.all 0)), (1, .one (.dat (.int .i64) a1)), (5, .one (.dat (.int .i64) (0 : Int)))], [(0, .seq (.int .i64) a0)], 1⟩) hO (fun h => by cases h) (by kernel_rfl) ⟨rfl, rfl, rfl, trivial⟩).ht ?_
  refine HT.loopE (s := (a1, (0 : Int), a0)) (fun (s1 : Int × Int × List Int) => ⟨[(0, .one (.all 0)), (1, .one (.dat (.int .i64) s1.1)), (5, .one (.dat (.int .i64) s1.2.1))], [(0, .seq (.int .i64) s1.2.2)], 1⟩) (fun (r3 : (Int × List Int)) => (.exit 0, ⟨[(1, .one (.dat (.int .i64) r3.1))], [(0, .seq (.int .i64) r3.2)], 1⟩)) hL10 ?_ (fun s1 x5 hx6 hk7 => ?_)
  · refine (qBlockX (qThen ?_))
    refine HT.reg1 [4] [⟨none, .no⟩, ⟨none, .no⟩] ⟨[(4, .one (.dat (.int .i64) r2.1))], [(0, .seq (.int .i64) r2.2)], 1⟩ hP hN (by kernel_rfl) allNil ?_
    obtain ⟨hg4, hr⟩ := of_guard hr
    have hr := of_some hr
    subst hr
    exact HT.ret ⟨[.one (.dat (.int .i64) r2.1)], [], [List.length r2.2 = List.length a0], by kernel_rfl, by kernel_rfl, rfl, by kernel_rfl, by kernel_rfl, ⟨hg4, trivial⟩⟩
  · refine HT.seq ?_
    refine HT.reg1 [0, 1, 5, 9] [⟨none, .no⟩, ⟨none, .no⟩, ⟨none, .no⟩, ⟨none, .no⟩] ⟨[(0, .one (.all 0)), (1, .one (.dat (.int .i64) s1.1)), (5, .one (.dat (.int .i64) s1.2.1)), (9, .one (.dat .bool (decide (s1.2.1 < (lenI s1.2.2)))))], [(0, .seq (.int .i64) s1.2.2)], 1⟩ hP hN (by kernel_rfl) allNil ?_
    rcases of_bif hx6 with ⟨hb8, hx6⟩ | ⟨hb8, hx6⟩
    · refine HT.cond1 rfl hb8 ?_
      refine HT.skip (qThen ?_)
      refine HT.seq ?_
      refine HT.block ?_
      obtain ⟨hg9, hx6⟩ := of_guard hx6
      refine HT.reg1 [0, 1, 5] [⟨none, .no⟩, ⟨none, .no⟩, ⟨none, .no⟩, ⟨none, .no⟩, ⟨none, .no⟩] ⟨[(0, .one (.all 0)), (1, .one (.dat (.int .i64) s1.1)), (5, .one (.dat (.int .i64) s1.2.1))], [(0, .seq (.int .i64) (List.set s1.2.2 (Int.toNat s1.2.1) s1.1)), (0, .seq (.int .i64) s1.2.2)], 1⟩ hP hN (by kernel_rfl) (allCons hg9 (allCons (natLt hg9) allNil)) ?_
      refine HT.reg (rs := [⟨none, .no⟩, ⟨none, .no⟩, ⟨none, .no⟩]) (st' := ⟨[(1, .one (.dat (.int .i64) (wadd .i64 s1.1 (1 : Int)))), (17, .one (.dat (.int .i64) (wadd .i64 s1.1 (1 : Int)))), (16, .one (.dat (.int .i64) s1.1)), (0, .one (.all 0)), (1, .one (.dat (.int .i64) s1.1)), (5, .one (.dat (.int .i64) s1.2.1))], [(0, .seq (.int .i64) (List.set s1.2.2 (Int.toNat s1.2.1) s1.1)), (0, .seq (.int .i64) s1.2.2)], 1⟩) hP hN (by kernel_rfl) allNil (qBlock (qThen ?_))
      have hx6 := of_some hx6
      subst hx6
      refine HT.reg (rs := [⟨none, .no⟩, ⟨none, .no⟩, ⟨none, .no⟩]) (st' := ⟨[(5, .one (.dat (.int .i64) (wadd .i64 s1.2.1 (1 : Int)))), (11, .one (.dat (.int .i64) (wadd .i64 s1.2.1 (1 : Int)))), (10, .one (.dat (.int .i64) s1.2.1)), (1, .one (.dat (.int .i64) (wadd .i64 s1.1 (1 : Int)))), (17, .one (.dat (.int .i64) (wadd .i64 s1.1 (1 : Int)))), (16, .one (.dat (.int .i64) s1.1)), (0, .one (.all 0)), (1, .one (.dat (.int .i64) s1.1)), (5, .one (.dat (.int .i64) s1.2.1))], [(0, .seq (.int .i64) (List.set s1.2.2 (Int.toNat s1.2.1) s1.1)), (0, .seq (.int .i64) s1.2.2)], 1⟩) hP hN (by kernel_rfl) allNil (qLoopN ⟨((wadd .i64 s1.1 (1 : Int)), (wadd .i64 s1.2.1 (1 : Int)), (List.set s1.2.2 (Int.toNat s1.2.1) s1.1)), rfl, Le.cv (s := ⟨[(0, 0)], [], [], false⟩) (own := [0]) (ps := [(wadd .i64 s1.1 (1 : Int)) = (wadd .i64 s1.1 (1 : Int)), (wadd .i64 s1.2.1 (1 : Int)) = (wadd .i64 s1.2.1 (1 : Int)), (List.set s1.2.2 (Int.toNat s1.2.1) s1.1) = (List.set s1.2.2 (Int.toNat s1.2.1) s1.1)]) (st' := ⟨[(0, .one (.all 0)), (1, .one (.dat (.int .i64) (wadd .i64 s1.1 (1 : Int)))), (5, .one (.dat (.int .i64) (wadd .i64 s1.2.1 (1 : Int))))], [(0, .seq (.int .i64) (List.set s1.2.2 (Int.toNat s1.2.1) s1.1))], 1⟩) hO (fun h => by cases h) (by kernel_rfl) ⟨rfl, rfl, rfl, trivial⟩⟩)
    · refine HT.cond0 rfl hb8 ?_
      have hx6 := of_some hx6
      subst hx6
      refine (Le.cv (s := ⟨[(0, 0)], [], [], false⟩) (own := [0]) (ps := [s1.1 = s1.1, s1.2.2 = s1.2.2]) (st' := ⟨[(1, .one (.dat (.int .i64) s1.1))], [(0, .seq (.int .i64) s1.2.2)], 1⟩) hO (fun h => by cases h) (by kernel_rfl) ⟨rfl, rfl, trivial⟩).ht ?_
      exact HT.exit (qThenE (qLoopE (hk7 (s1.1, s1.2.2) rfl)))

noncomputable def laws_heldFloat32S_B1 (a0 : List Nat) (s1 : Int × Int) : Option ((Int × Int) ⊕ (Int ⊕ Unit)) :=
  bif (decide (s1.2 < (lenI a0))) then
    guardP ((0 : Int) ≤ s1.2 ∧ s1.2 < lenI a0) (
      bif (!(feq .f32 (List.getD a0 (Int.toNat s1.2) (0 : Nat)) (fofint .f32 s1.1))) then
        some (.inr (.inr ()))
      else
        some (.inl ((wadd .i64 s1.1 (1 : Int)), (wadd .i64 s1.2 (1 : Int)))))
  else
    some (.inr (.inl s1.1))

noncomputable def laws_heldFloat32S (a0 : List Nat) (a1 : Int) : Option (Int) :=
  (rounds (laws_heldFloat32S_B1 a0) (a1, (0 : Int))).bind fun r2 => match r2 with
    | .inl r3 =>
      some r3
    | .inr r4 =>
      some (-1 : Int)

theorem f21_ok {a0 : List Nat} {a1 : Int} {r : Int} (hr : laws_heldFloat32S a0 a1 = some r) : CallOK Try.prog 21 [.imm (.sl (.flt .f32)) a0, .imm (.int .i64) a1] [⟨false, (.int .i64), r⟩] [] := by
  unfold laws_heldFloat32S at hr
  refine CallOK.of_body (ts := [(false, (.int .i64))]) Try.func21 rfl (by kernel_rfl) (Nat.le_of_ble_eq_true (by kernel_rfl)) fun cx hP hN hO hF => ?_
  have hO : cx.own.map Prod.fst = [] := hO
  have hF := hF rfl
  show HT cx ⟨[(0, .one (.dat (.sl (.flt .f32)) a0)), (1, .one (.dat (.int .i64) a1))], [], 0⟩ _ _
  refine HT.reg1 [0, 1] [⟨none, .no⟩] ⟨[(0, .one (.dat (.sl (.flt .f32)) a0)), (1, .one (.dat (.int .i64) a1))], [], 0⟩ hP hN (by kernel_rfl) allNil ?_
  refine HT.seq ?_
  refine HT.reg1 [0, 1, 5] [⟨none, .no⟩] ⟨[(0, .one (.dat (.sl (.flt .f32)) a0)), (1, .one (.dat (.int .i64) a1)), (5, .one (.dat (.int .i64) (0 : Int)))], [], 0⟩ hP hN (by kernel_rfl) allNil ?_
  refine HT.block ?_
  obtain ⟨r2, hL11, hr⟩ := of_bind hr
  refine (Le.cv (s := ⟨[], [], [], false⟩) (own := []) (ps := [a0 = a0, a1 = a1, (0 : Int) = (0 : Int)]) (st' := ⟨[(0, .one (.dat (.sl (.flt .f32)) a0)), (1, .one (.dat (.int .i64) a1)), (5, .one (.dat (.int .i64) (0 : Int)))], [], 0⟩) hO (fun h => by cases h) (by kernel_rfl) ⟨rfl, rfl, rfl, trivial⟩).ht ?_
  refine HT.loopE (s := (a1, (0 : Int))) (fun (s1 : Int × Int) => ⟨[(0, .one (.dat (.sl (.flt .f32)) a0)), (1, .one (.dat (.int .i64) s1.1)), (5, .one (.dat (.int .i64) s1.2))], [], 0⟩) (fun (r2 : Int ⊕ Unit) => match r2 with | .inl r3 => (.exit 0, ⟨[(1, .one (.dat (.int .i64) r3))], [], 0⟩) | .inr r4 => (.ret, ⟨[(4, .one (.dat (.int .i64) (-1 : Int)))], [], 0⟩)) hL11 ?_ (fun s1 x5 hx6 hk7 => ?_)
  · rcases r2 with r3 | r4
    · refine (qBlockX (qThen ?_))
      refine HT.reg1 [4] [⟨none, .no⟩, ⟨none, .no⟩] ⟨[(4, .one (.dat (.int .i64) r3))], [], 0⟩ hP hN (by kernel_rfl) allNil ?_
      have hr := of_some hr
      subst hr
      exact HT.ret ⟨[.one (.dat (.int .i64) r3)], [], [], by kernel_rfl, by kernel_rfl, rfl, by kernel_rfl, by kernel_rfl, trivial⟩
    · have hr := of_some hr
      subst hr
      exact (qBlockR (qThenR ⟨[.one (.dat (.int .i64) (-1 : Int))], [], [], by kernel_rfl, by kernel_rfl, rfl, by kernel_rfl, by kernel_rfl, trivial⟩))
  · refine HT.seq ?_
    refine HT.reg1 [0, 1, 5, 9] [⟨none, .no⟩, ⟨none, .no⟩, ⟨none, .no⟩, ⟨none, .no⟩] ⟨[(0, .one (.dat (.sl (.flt .f32)) a0)), (1, .one (.dat (.int .i64) s1.1)), (5, .one (.dat (.int .i64) s1.2)), (9, .one (.dat .bool (decide (s1.2 < (lenI a0)))))], [], 0⟩ hP hN (by kernel_rfl) allNil ?_
    rcases of_bif hx6 with ⟨hb8, hx6⟩ | ⟨hb8, hx6⟩
    · refine HT.cond1 rfl hb8 ?_
      refine HT.skip (qThen ?_)
      refine HT.seq ?_
      refine HT.block ?_
      refine HT.seq ?_
      obtain ⟨hg9, hx6⟩ := of_guard hx6
      refine HT.reg1 [0, 1, 5, 18] [⟨none, .no⟩, ⟨none, .no⟩, ⟨none, .no⟩, ⟨none, .no⟩, ⟨none, .no⟩, ⟨none, .no⟩, ⟨none, .no⟩] ⟨[(0, .one (.dat (.sl (.flt .f32)) a0)), (1, .one (.dat (.int .i64) s1.1)), (5, .one (.dat (.int .i64) s1.2)), (18, .one (.dat .bool (!(feq .f32 (List.getD a0 (Int.toNat s1.2) (0 : Nat)) (fofint .f32 s1.1)))))], [], 0⟩ hP hN (by kernel_rfl) (allCons hg9 allNil) ?_
      rcases of_bif hx6 with ⟨hb10, hx6⟩ | ⟨hb10, hx6⟩
      · refine HT.cond1 rfl hb10 ?_
        refine HT.reg1 [4] [⟨none, .no⟩] ⟨[(4, .one (.dat (.int .i64) (-1 : Int)))], [], 0⟩ hP hN (by kernel_rfl) allNil ?_
        have hx6 := of_some hx6
        subst hx6
        refine (Le.cv (s := ⟨[], [], [], false⟩) (own := []) (ps := [(-1 : Int) = (-1 : Int)]) (st' := ⟨[(4, .one (.dat (.int .i64) (-1 : Int)))], [], 0⟩) hO (fun h => by cases h) (by kernel_rfl) ⟨rfl, trivial⟩).ht ?_
        exact HT.ret (qThenR (qBlockR (qThenR (qLoopR (hk7 (.inr ()) rfl)))))
      · refine HT.cond0 rfl hb10 ?_
        refine HT.skip (qThen ?_)
        refine HT.reg (rs := [⟨none, .no⟩, ⟨none, .no⟩, ⟨none, .no⟩]) (st' := ⟨[(1, .one (.dat (.int .i64) (wadd .i64 s1.1 (1 : Int)))), (20, .one (.dat (.int .i64) (wadd .i64 s1.1 (1 : Int)))), (19, .one (.dat (.int .i64) s1.1)), (0, .one (.dat (.sl (.flt .f32)) a0)), (1, .one (.dat (.int .i64) s1.1)), (5, .one (.dat (.int .i64) s1.2)), (18, .one (.dat .bool (!(feq .f32 (List.getD a0 (Int.toNat s1.2) (0 : Nat)) (fofint .f32 s1.1)))))], [], 0⟩) hP hN (by kernel_rfl) allNil (qBlock (qThen ?_))
        have hx6 := of_some hx6
        subst hx6
        refine HT.reg (rs := [⟨none, .no⟩, ⟨none, .no⟩, ⟨none, .no⟩]) (st' := ⟨[(5, .one (.dat (.int .i64) (wadd .i64 s1.2 (1 : Int)))), (11, .one (.dat (.int .i64) (wadd .i64 s1.2 (1 : Int)))), (10, .one (.dat (.int .i64) s1.2)), (1, .one (.dat (.int .i64) (wadd .i64 s1.1 (1 : Int)))), (20, .one (.dat (.int .i64) (wadd .i64 s1.1 (1 : Int)))), (19, .one (.dat (.int .i64) s1.1)), (0, .one (.dat (.sl (.flt .f32)) a0)), (1, .one (.dat (.int .i64) s1.1)), (5, .one (.dat (.int .i64) s1.2)), (18, .one (.dat .bool (!(feq .f32 (List.getD a0 (Int.toNat s1.2) (0 : Nat)) (fofint .f32 s1.1)))))], [], 0⟩) hP hN (by kernel_rfl) allNil (qLoopN ⟨((wadd .i64 s1.1 (1 : Int)), (wadd .i64 s1.2 (1 : Int))), rfl, Le.cv (s := ⟨[], [], [], false⟩) (own := []) (ps := [a0 = a0, (wadd .i64 s1.1 (1 : Int)) = (wadd .i64 s1.1 (1 : Int)), (wadd .i64 s1.2 (1 : Int)) = (wadd .i64 s1.2 (1 : Int))]) (st' := ⟨[(0, .one (.dat (.sl (.flt .f32)) a0)), (1, .one (.dat (.int .i64) (wadd .i64 s1.1 (1 : Int)))), (5, .one (.dat (.int .i64) (wadd .i64 s1.2 (1 : Int))))], [], 0⟩) hO (fun h => by cases h) (by kernel_rfl) ⟨rfl, rfl, rfl, trivial⟩⟩)
    · refine HT.cond0 rfl hb8 ?_
      have hx6 := of_some hx6
      subst hx6
      refine (Le.cv (s := ⟨[], [], [], false⟩) (own := []) (ps := [s1.1 = s1.1]) (st' := ⟨[(1, .one (.dat (.int .i64) s1.1))], [], 0⟩) hO (fun h => by cases h) (by kernel_rfl) ⟨rfl, trivial⟩).ht ?_
      exact HT.exit (qThenE (qLoopE (hk7 (.inl s1.1) rfl)))

noncomputable def laws_FnExactBackwardOf (a0 : Int × Int × List Nat × List Nat × List Nat) (a1 : List Int) : Option (Bool) :=
  bif (decide ((lenI a1) > (1048576 : Int))) then
    some true
  else
    (laws_szModel (a0.1, a0.2.1, a0.2.2.1, a0.2.2.2.1, a0.2.2.2.2) (1048576 : Int)).bind fun y2 =>
    bif (decide (y2 < (0 : Int))) then
      some true
    else
      (laws_toModel (a0.1, a0.2.1, a0.2.2.1, a0.2.2.2.1, a0.2.2.2.2)).bind fun y5 =>
      (laws_toInt64S a1).bind fun y7 =>
      (spec_BackwardOf (y5.1, y5.2.1, y5.2.2.1, y5.2.2.2.1, y5.2.2.2.2) y7).bind fun y9 =>
      (laws_toModel (a0.1, a0.2.1, a0.2.2.1, a0.2.2.2.1, a0.2.2.2.2)).bind fun y11 =>
      (laws_toInt64S a1).bind fun y13 =>
      (impl_BackwardOf (y11.1, y11.2.1, y11.2.2.1, y11.2.2.2.1, y11.2.2.2.2) y13).bind fun y15 =>
      (show Option (Bool) from
        (laws_eqFloat32S y15.1 y9.1).bind fun y66 =>
        bif (!y66) then
          some true
        else
          some (y15.2 != y9.2)).bind fun v17 =>
      bif v17 then
        some false
      else
        (laws_toModel (a0.1, a0.2.1, a0.2.2.1, a0.2.2.2.1, a0.2.2.2.2)).bind fun y21 =>
        (laws_eqModel (y11.1, y11.2.1, y11.2.2.1, y11.2.2.2.1, y11.2.2.2.2) (y21.1, y21.2.1, y21.2.2.1, y21.2.2.2.1, y21.2.2.2.2)).bind fun y23 =>
        bif (!y23) then
          some false
        else
          (laws_toInt64S a1).bind fun y26 =>
          (laws_eqInt64S y13 y26).bind fun y28 =>
          bif (!y28) then
            some false
          else
            (laws_markModel (y11.1, y11.2.1, y11.2.2.1, y11.2.2.2.1, y11.2.2.2.2) (1 : Int)).bind fun y31 =>
            (laws_markInt64S y13 y31.1).bind fun y33 =>
            (show Option (Bool) from
              bif (decide (y33.1 < (0 : Int))) then
                some true
              else
                (laws_eqFloat32S y15.1 y9.1).bind fun y63 =>
                bif (!y63) then
                  some true
                else
                  some (y15.2 != y9.2)).bind fun v35 =>
            bif v35 then
              some false
            else
              (laws_markFloat32S y15.1 (1 : Int)).bind fun y39 =>
              (laws_heldFloat32S y39.2 (1 : Int)).bind fun y41 =>
              bif (decide (y41 < (0 : Int))) then
                some false
              else
                bif (y41 != y39.1) then
                  some false
                else
                  (laws_toModel (a0.1, a0.2.1, a0.2.2.1, a0.2.2.2.1, a0.2.2.2.2)).bind fun y45 =>
                  (laws_toInt64S a1).bind fun y47 =>
                  (impl_BackwardOf (y45.1, y45.2.1, y45.2.2.1, y45.2.2.2.1, y45.2.2.2.2) y47).bind fun y49 =>
                  (show Option (Bool) from
                    (laws_eqFloat32S y49.1 y9.1).bind fun y59 =>
                    bif (!y59) then
                      some true
                    else
                      some (y49.2 != y9.2)).bind fun v51 =>
                  bif v51 then
                    some false
                  else
                    (laws_heldFloat32S y39.2 (1 : Int)).bind fun y55 =>
                    bif (decide (y55 < (0 : Int))) then
                      some false
                    else
                      bif (y55 != y39.1) then
                        some false
                      else
                        some true

theorem f3_ok {a0 : Int × Int × List Nat × List Nat × List Nat} {a1 : List Int} {r : Bool} (hr : laws_FnExactBackwardOf a0 a1 = some r) : CallOK Try.prog 3 [.imm (.st (.pair (.int .i64) (.pair (.int .i64) (.pair (.sl (.flt .f32)) (.pair (.sl (.flt .f32)) (.sl (.flt .f32))))))) a0, .imm (.sl (.int .i64)) a1] [⟨false, .bool, r⟩] [] := by
  unfold laws_FnExactBackwardOf at hr
  refine CallOK.of_body (ts := [(false, .bool)]) Try.func3 rfl (by kernel_rfl) (Nat.le_of_ble_eq_true (by kernel_rfl)) fun cx hP hN hO hF => ?_
  have hO : cx.own.map Prod.fst = [] := hO
  have hF := hF rfl
  show HT cx ⟨[(0, .agg [.dat (.int .i64) a0.1, .dat (.int .i64) a0.2.1, .dat (.sl (.flt .f32)) a0.2.2.1, .dat (.sl (.flt .f32)) a0.2.2.2.1, .dat (.sl (.flt .f32)) a0.2.2.2.2]), (1, .one (.dat (.sl (.int .i64)) a1))], [], 0⟩ _ _
  refine HT.reg1 [1, 2] [⟨none, .no⟩, ⟨none, .no⟩] ⟨[(1, .one (.dat (.sl (.int .i64)) a1)), (2, .one (.ptr 0 0))], [(0, .box [.dat (.int .i64) a0.1, .dat (.int .i64) a0.2.1, .dat (.sl (.flt .f32)) a0.2.2.1, .dat (.sl (.flt .f32)) a0.2.2.2.1, .dat (.sl (.flt .f32)) a0.2.2.2.2])], 1⟩ hP hN (by kernel_rfl) allNil ?_
  refine HT.seq ?_
  refine HT.reg1 [1, 2, 19] [⟨none, .no⟩, ⟨none, .no⟩, ⟨none, .no⟩] ⟨[(1, .one (.dat (.sl (.int .i64)) a1)), (2, .one (.ptr 0 0)), (19, .one (.dat .bool (decide ((lenI a1) > (1048576 : Int)))))], [(0, .box [.dat (.int .i64) a0.1, .dat (.int .i64) a0.2.1, .dat (.sl (.flt .f32)) a0.2.2.1, .dat (.sl (.flt .f32)) a0.2.2.2.1, .dat (.sl (.flt .f32)) a0.2.2.2.2])], 1⟩ hP hN (by kernel_rfl) allNil ?_
  rcases of_bif hr with ⟨hb1, hr⟩ | ⟨hb1, hr⟩
  · refine HT.cond1 rfl hb1 ?_
    refine HT.reg1 [4] [⟨none, .no⟩] ⟨[(4, .one (.dat .bool true))], [(0, .box [.dat (.int .i64) a0.1, .dat (.int .i64) a0.2.1, .dat (.sl (.flt .f32)) a0.2.2.1, .dat (.sl (.flt .f32)) a0.2.2.2.1, .dat (.sl (.flt .f32)) a0.2.2.2.2])], 1⟩ hP hN (by kernel_rfl) allNil ?_
    have hr := of_some hr
    subst hr
    exact HT.ret (qThenR ⟨[.one (.dat .bool true)], [], [], by kernel_rfl, by kernel_rfl, rfl, by kernel_rfl, by kernel_rfl, trivial⟩)
  · refine HT.cond0 rfl hb1 ?_
    refine HT.skip (qThen ?_)
    refine HT.reg1 [1, 2, 5] [⟨none, .no⟩] ⟨[(1, .one (.dat (.sl (.int .i64)) a1)), (2, .one (.ptr 0 0)), (5, .one (.dat (.int .i64) (1048576 : Int)))], [(0, .box [.dat (.int .i64) a0.1, .dat (.int .i64) a0.2.1, .dat (.sl (.flt .f32)) a0.2.2.1, .dat (.sl (.flt .f32)) a0.2.2.2.1, .dat (.sl (.flt .f32)) a0.2.2.2.2])], 1⟩ hP hN (by kernel_rfl) allNil ?_
    obtain ⟨y2, hc3, hr⟩ := of_bind hr
    refine HT.reg1 [1, 2, 5] [⟨none, .no⟩, ⟨none, .no⟩, ⟨none, .call [.imm (.st (.pair (.int .i64) (.pair (.int .i64) (.pair (.sl (.flt .f32)) (.pair (.sl (.flt .f32)) (.sl (.flt .f32))))))), .imm (.int .i64)] [⟨false, (.int .i64), y2⟩] []⟩, ⟨none, .no⟩] ⟨[(1, .one (.dat (.sl (.int .i64)) a1)), (2, .one (.ptr 0 0)), (5, .one (.dat (.int .i64) y2))], [(0, .box [.dat (.int .i64) a0.1, .dat (.int .i64) a0.2.1, .dat (.sl (.flt .f32)) a0.2.2.1, .dat (.sl (.flt .f32)) a0.2.2.2.1, .dat (.sl (.flt .f32)) a0.2.2.2.2])], 1⟩ hP hN (by kernel_rfl) (allCons (f10_ok hc3) allNil) ?_
    refine HT.seq ?_
    refine HT.reg1 [1, 2, 24] [⟨none, .no⟩, ⟨none, .no⟩] ⟨[(1, .one (.dat (.sl (.int .i64)) a1)), (2, .one (.ptr 0 0)), (24, .one (.dat .bool (decide (y2 < (0 : Int)))))], [(0, .box [.dat (.int .i64) a0.1, .dat (.int .i64) a0.2.1, .dat (.sl (.flt .f32)) a0.2.2.1, .dat (.sl (.flt .f32)) a0.2.2.2.1, .dat (.sl (.flt .f32)) a0.2.2.2.2])], 1⟩ hP hN (by kernel_rfl) allNil ?_
    rcases of_bif hr with ⟨hb4, hr⟩ | ⟨hb4, hr⟩
    · refine HT.cond1 rfl hb4 ?_
      refine HT.reg1 [4] [⟨none, .no⟩] ⟨[(4, .one (.dat .bool true))], [(0, .box [.dat (.int .i64) a0.1, .dat (.int .i64) a0.2.1, .dat (.sl (.flt .f32)) a0.2.2.1, .dat (.sl (.flt .f32)) a0.2.2.2.1, .dat (.sl (.flt .f32)) a0.2.2.2.2])], 1⟩ hP hN (by kernel_rfl) allNil ?_
      have hr := of_some hr
      subst hr
      exact HT.ret (qThenR ⟨[.one (.dat .bool true)], [], [], by kernel_rfl, by kernel_rfl, rfl, by kernel_rfl, by kernel_rfl, trivial⟩)
    · refine HT.cond0 rfl hb4 ?_
      refine HT.skip (qThen ?_)
      obtain ⟨y5, hc6, hr⟩ := of_bind hr
      obtain ⟨y7, hc8, hr⟩ := of_bind hr
      obtain ⟨y9, hc10, hr⟩ := of_bind hr
      refine HT.reg1 [1, 2, 6, 7] [⟨none, .no⟩, ⟨none, .call [.imm (.st (.pair (.int .i64) (.pair (.int .i64) (.pair (.sl (.flt .f32)) (.pair (.sl (.flt .f32)) (.sl (.flt .f32)))))))] [⟨true, (.st (.pair (.int .i64) (.pair (.int .i64) (.pair (.sl (.flt .f32)) (.pair (.sl (.flt .f32)) (.sl (.flt .f32))))))), y5⟩] []⟩, ⟨none, .no⟩, ⟨none, .call [.imm (.sl (.int .i64))] [⟨true, (.sl (.int .i64)), y7⟩] []⟩, ⟨none, .call [.imm (.st (.pair (.int .i64) (.pair (.int .i64) (.pair (.sl (.flt .f32)) (.pair (.sl (.flt .f32)) (.sl (.flt .f32))))))), .imm (.sl (.int .i64))] [⟨true, (.sl (.flt .f32)), y9.1⟩, ⟨false, .bool, y9.2⟩] []⟩, ⟨none, .no⟩, ⟨none, .no⟩, ⟨none, .no⟩, ⟨none, .no⟩, ⟨none, .no⟩] ⟨[(1, .one (.dat (.sl (.int .i64)) a1)), (2, .one (.ptr 0 0)), (6, .one (.all 5)), (7, .one (.dat .bool y9.2))], [(5, .seq (.flt .f32) y9.1), (4, .seq (.int .i64) y7), (1, .seq (.flt .f32) y5.2.2.1), (2, .seq (.flt .f32) y5.2.2.2.1), (3, .seq (.flt .f32) y5.2.2.2.2), (0, .box [.dat (.int .i64) a0.1, .dat (.int .i64) a0.2.1, .dat (.sl (.flt .f32)) a0.2.2.1, .dat (.sl (.flt .f32)) a0.2.2.2.1, .dat (.sl (.flt .f32)) a0.2.2.2.2])], 6⟩ hP hN (by kernel_rfl) (allCons (f12_ok hc6) (allCons (f13_ok hc8) (allCons (f11_ok hc10) allNil))) ?_
      obtain ⟨y11, hc12, hr⟩ := of_bind hr
      refine HT.reg1 [1, 2, 6, 7, 8] [⟨none, .no⟩, ⟨none, .call [.imm (.st (.pair (.int .i64) (.pair (.int .i64) (.pair (.sl (.flt .f32)) (.pair (.sl (.flt .f32)) (.sl (.flt .f32)))))))] [⟨true, (.st (.pair (.int .i64) (.pair (.int .i64) (.pair (.sl (.flt .f32)) (.pair (.sl (.flt .f32)) (.sl (.flt .f32))))))), y11⟩] []⟩, ⟨none, .no⟩, ⟨none, .no⟩] ⟨[(1, .one (.dat (.sl (.int .i64)) a1)), (2, .one (.ptr 0 0)), (6, .one (.all 5)), (7, .one (.dat .bool y9.2)), (8, .one (.ptr 9 0))], [(9, .box [.dat (.int .i64) y11.1, .dat (.int .i64) y11.2.1, .all 6, .all 7, .all 8]), (9, .box [.dat (.int .i64) (0 : Int), .dat (.int .i64) (0 : Int), .nilS, .nilS, .nilS]), (6, .seq (.flt .f32) y11.2.2.1), (7, .seq (.flt .f32) y11.2.2.2.1), (8, .seq (.flt .f32) y11.2.2.2.2), (5, .seq (.flt .f32) y9.1), (4, .seq (.int .i64) y7), (1, .seq (.flt .f32) y5.2.2.1), (2, .seq (.flt .f32) y5.2.2.2.1), (3, .seq (.flt .f32) y5.2.2.2.2), (0, .box [.dat (.int .i64) a0.1, .dat (.int .i64) a0.2.1, .dat (.sl (.flt .f32)) a0.2.2.1, .dat (.sl (.flt .f32)) a0.2.2.2.1, .dat (.sl (.flt .f32)) a0.2.2.2.2])], 10⟩ hP hN (by kernel_rfl) (allCons (f12_ok hc12) allNil) ?_
      obtain ⟨y13, hc14, hr⟩ := of_bind hr
      refine HT.reg1 [1, 2, 6, 7, 8, 9] [⟨none, .no⟩, ⟨none, .call [.imm (.sl (.int .i64))] [⟨true, (.sl (.int .i64)), y13⟩] []⟩, ⟨none, .no⟩] ⟨[(1, .one (.dat (.sl (.int .i64)) a1)), (2, .one (.ptr 0 0)), (6, .one (.all 5)), (7, .one (.dat .bool y9.2)), (8, .one (.ptr 9 0)), (9, .one (.all 10))], [(10, .seq (.int .i64) y13), (9, .box [.dat (.int .i64) y11.1, .dat (.int .i64) y11.2.1, .all 6, .all 7, .all 8]), (9, .box [.dat (.int .i64) (0 : Int), .dat (.int .i64) (0 : Int), .nilS, .nilS, .nilS]), (6, .seq (.flt .f32) y11.2.2.1), (7, .seq (.flt .f32) y11.2.2.2.1), (8, .seq (.flt .f32) y11.2.2.2.2), (5, .seq (.flt .f32) y9.1), (4, .seq (.int .i64) y7), (1, .seq (.flt .f32) y5.2.2.1), (2, .seq (.flt .f32) y5.2.2.2.1), (3, .seq (.flt .f32) y5.2.2.2.2), (0, .box [.dat (.int .i64) a0.1, .dat (.int .i64) a0.2.1, .dat (.sl (.flt .f32)) a0.2.2.1, .dat (.sl (.flt .f32)) a0.2.2.2.1, .dat (.sl (.flt .f32)) a0.2.2.2.2])], 11⟩ hP hN (by kernel_rfl) (allCons (f13_ok hc14) allNil) ?_
      obtain ⟨y15, hc16, hr⟩ := of_bind hr
      refine HT.reg1 [1, 2, 6, 7, 8, 9, 10, 11] [⟨none, .no⟩, ⟨none, .no⟩, ⟨none, .call [.imm (.st (.pair (.int .i64) (.pair (.int .i64) (.pair (.sl (.flt .f32)) (.pair (.sl (.flt .f32)) (.sl (.flt .f32))))))), .imm (.sl (.int .i64))] [⟨true, (.sl (.flt .f32)), y15.1⟩, ⟨false, .bool, y15.2⟩] []⟩, ⟨none, .no⟩, ⟨none, .no⟩, ⟨none, .no⟩, ⟨none, .no⟩, ⟨none, .no⟩] ⟨[(1, .one (.dat (.sl (.int .i64)) a1)), (2, .one (.ptr 0 0)), (6, .one (.all 5)), (7, .one (.dat .bool y9.2)), (8, .one (.ptr 9 0)), (9, .one (.all 10)), (10, .one (.all 11)), (11, .one (.dat .bool y15.2))], [(11, .seq (.flt .f32) y15.1), (10, .seq (.int .i64) y13), (9, .box [.dat (.int .i64) y11.1, .dat (.int .i64) y11.2.1, .all 6, .all 7, .all 8]), (9, .box [.dat (.int .i64) (0 : Int), .dat (.int .i64) (0 : Int), .nilS, .nilS, .nilS]), (6, .seq (.flt .f32) y11.2.2.1), (7, .seq (.flt .f32) y11.2.2.2.1), (8, .seq (.flt .f32) y11.2.2.2.2), (5, .seq (.flt .f32) y9.1), (4, .seq (.int .i64) y7), (1, .seq (.flt .f32) y5.2.2.1), (2, .seq (.flt .f32) y5.2.2.2.1), (3, .seq (.flt .f32) y5.2.2.2.2), (0, .box [.dat (.int .i64) a0.1, .dat (.int .i64) a0.2.1, .dat (.sl (.flt .f32)) a0.2.2.1, .dat (.sl (.flt .f32)) a0.2.2.2.1, .dat (.sl (.flt .f32)) a0.2.2.2.2])], 12⟩ hP hN (by kernel_rfl) (allCons (f14_ok hc16) allNil) ?_
      refine HT.seq ?_
      obtain ⟨v17', hT19, hr⟩ := of_bind hr
      refine HT.join (fun (v17 : Bool) => ⟨[(1, .one (.dat (.sl (.int .i64)) a1)), (2, .one (.ptr 0 0)), (6, .one (.all 1)), (7, .one (.dat .bool y9.2)), (8, .one (.ptr 2 0)), (9, .one (.all 3)), (10, .one (.all 4)), (11, .one (.dat .bool y15.2)), (51, .one (.dat .bool v17))], [(0, .box [.dat (.int .i64) a0.1, .dat (.int .i64) a0.2.1, .dat (.sl (.flt .f32)) a0.2.2.1, .dat (.sl (.flt .f32)) a0.2.2.2.1, .dat (.sl (.flt .f32)) a0.2.2.2.2]), (1, .seq (.flt .f32) y9.1), (2, .box [.dat (.int .i64) y11.1, .dat (.int .i64) y11.2.1, .all 5, .all 6, .all 7]), (3, .seq (.int .i64) y13), (4, .seq (.flt .f32) y15.1), (5, .seq (.flt .f32) y11.2.2.1), (6, .seq (.flt .f32) y11.2.2.2.1), (7, .seq (.flt .f32) y11.2.2.2.2)], 8⟩) (fun v => v = v17') (fun v17 hv18 => ?_) (fun cont => ?_)
      · subst hv18
        rcases of_bif hr with ⟨hb20, hr⟩ | ⟨hb20, hr⟩
        · refine HT.cond1 rfl hb20 ?_
          refine HT.reg1 [4] [⟨none, .no⟩] ⟨[(4, .one (.dat .bool false))], [(0, .box [.dat (.int .i64) a0.1, .dat (.int .i64) a0.2.1, .dat (.sl (.flt .f32)) a0.2.2.1, .dat (.sl (.flt .f32)) a0.2.2.2.1, .dat (.sl (.flt .f32)) a0.2.2.2.2]), (1, .seq (.flt .f32) y9.1), (2, .box [.dat (.int .i64) y11.1, .dat (.int .i64) y11.2.1, .all 5, .all 6, .all 7]), (3, .seq (.int .i64) y13), (4, .seq (.flt .f32) y15.1), (5, .seq (.flt .f32) y11.2.2.1), (6, .seq (.flt .f32) y11.2.2.2.1), (7, .seq (.flt .f32) y11.2.2.2.2)], 8⟩ hP hN (by kernel_rfl) allNil ?_
          have hr := of_some hr
          subst hr
          exact HT.ret (qThenR ⟨[.one (.dat .bool false)], [], [], by kernel_rfl, by kernel_rfl, rfl, by kernel_rfl, by kernel_rfl, trivial⟩)
        · refine HT.cond0 rfl hb20 ?_
          refine HT.skip (qThen ?_)
          refine HT.seq ?_
          obtain ⟨y21, hc22, hr⟩ := of_bind hr
          obtain ⟨y23, hc24, hr⟩ := of_bind hr
          refine HT.drw1 [1, 2, 6, 7, 8, 9, 10, 11, 56] 3 [⟨⟨none, .no⟩, []⟩, ⟨⟨none, .no⟩, []⟩, ⟨⟨none, .call [.imm (.st (.pair (.int .i64) (.pair (.int .i64) (.pair (.sl (.flt .f32)) (.pair (.sl (.flt .f32)) (.sl (.flt .f32)))))))] [⟨true, (.st (.pair (.int .i64) (.pair (.int .i64) (.pair (.sl (.flt .f32)) (.pair (.sl (.flt .f32)) (.sl (.flt .f32))))))), y21⟩] []⟩, [1]⟩] [[0, 1, 2], [0, 1, 2, 3]] [⟨none, .call [.imm (.st (.pair (.int .i64) (.pair (.int .i64) (.pair (.sl (.flt .f32)) (.pair (.sl (.flt .f32)) (.sl (.flt .f32))))))), .imm (.st (.pair (.int .i64) (.pair (.int .i64) (.pair (.sl (.flt .f32)) (.pair (.sl (.flt .f32)) (.sl (.flt .f32)))))))] [⟨false, .bool, y23⟩] []⟩, ⟨none, .no⟩] ⟨[(1, .one (.dat (.sl (.int .i64)) a1)), (2, .one (.ptr 0 0)), (6, .one (.all 1)), (7, .one (.dat .bool y9.2)), (8, .one (.ptr 2 0)), (9, .one (.all 3)), (10, .one (.all 4)), (11, .one (.dat .bool y15.2)), (56, .one (.dat .bool (!y23)))], [(8, .seq (.flt .f32) y21.2.2.1), (9, .seq (.flt .f32) y21.2.2.2.1), (10, .seq (.flt .f32) y21.2.2.2.2), (0, .box [.dat (.int .i64) a0.1, .dat (.int .i64) a0.2.1, .dat (.sl (.flt .f32)) a0.2.2.1, .dat (.sl (.flt .f32)) a0.2.2.2.1, .dat (.sl (.flt .f32)) a0.2.2.2.2]), (1, .seq (.flt .f32) y9.1), (2, .box [.dat (.int .i64) y11.1, .dat (.int .i64) y11.2.1, .all 5, .all 6, .all 7]), (3, .seq (.int .i64) y13), (4, .seq (.flt .f32) y15.1), (5, .seq (.flt .f32) y11.2.2.1), (6, .seq (.flt .f32) y11.2.2.2.1), (7, .seq (.flt .f32) y11.2.2.2.2)], 11⟩ hP hN (by kernel_rfl) (by kernel_rfl) (allCons (f12_ok hc22) (allCons (f16_ok hc24) allNil)) ?_
          rcases of_bif hr with ⟨hb25, hr⟩ | ⟨hb25, hr⟩
          · refine HT.cond1 rfl hb25 ?_
            refine HT.reg1 [4] [⟨none, .no⟩] ⟨[(4, .one (.dat .bool false))], [(8, .seq (.flt .f32) y21.2.2.1), (9, .seq (.flt .f32) y21.2.2.2.1), (10, .seq (.flt .f32) y21.2.2.2.2), (0, .box [.dat (.int .i64) a0.1, .dat (.int .i64) a0.2.1, .dat (.sl (.flt .f32)) a0.2.2.1, .dat (.sl (.flt .f32)) a0.2.2.2.1, .dat (.sl (.flt .f32)) a0.2.2.2.2]), (1, .seq (.flt .f32) y9.1), (2, .box [.dat (.int .i64) y11.1, .dat (.int .i64) y11.2.1, .all 5, .all 6, .all 7]), (3, .seq (.int .i64) y13), (4, .seq (.flt .f32) y15.1), (5, .seq (.flt .f32) y11.2.2.1), (6, .seq (.flt .f32) y11.2.2.2.1), (7, .seq (.flt .f32) y11.2.2.2.2)], 11⟩ hP hN (by kernel_rfl) allNil ?_
            have hr := of_some hr
            subst hr
            exact HT.ret (qThenR ⟨[.one (.dat .bool false)], [], [], by kernel_rfl, by kernel_rfl, rfl, by kernel_rfl, by kernel_rfl, trivial⟩)
          · refine HT.cond0 rfl hb25 ?_
            refine HT.skip (qThen ?_)
            refine HT.seq ?_
            obtain ⟨y26, hc27, hr⟩ := of_bind hr
            obtain ⟨y28, hc29, hr⟩ := of_bind hr
            refine HT.reg1 [1, 2, 6, 7, 8, 9, 10, 11, 61] [⟨none, .no⟩, ⟨none, .no⟩, ⟨none, .call [.imm (.sl (.int .i64))] [⟨true, (.sl (.int .i64)), y26⟩] []⟩, ⟨none, .call [.imm (.sl (.int .i64)), .imm (.sl (.int .i64))] [⟨false, .bool, y28⟩] []⟩, ⟨none, .no⟩] ⟨[(1, .one (.dat (.sl (.int .i64)) a1)), (2, .one (.ptr 0 0)), (6, .one (.all 1)), (7, .one (.dat .bool y9.2)), (8, .one (.ptr 2 0)), (9, .one (.all 3)), (10, .one (.all 4)), (11, .one (.dat .bool y15.2)), (61, .one (.dat .bool (!y28)))], [(11, .seq (.int .i64) y26), (8, .seq (.flt .f32) y21.2.2.1), (9, .seq (.flt .f32) y21.2.2.2.1), (10, .seq (.flt .f32) y21.2.2.2.2), (0, .box [.dat (.int .i64) a0.1, .dat (.int .i64) a0.2.1, .dat (.sl (.flt .f32)) a0.2.2.1, .dat (.sl (.flt .f32)) a0.2.2.2.1, .dat (.sl (.flt .f32)) a0.2.2.2.2]), (1, .seq (.flt .f32) y9.1), (2, .box [.dat (.int .i64) y11.1, .dat (.int .i64) y11.2.1, .all 5, .all 6, .all 7]), (3, .seq (.int .i64) y13), (4, .seq (.flt .f32) y15.1), (5, .seq (.flt .f32) y11.2.2.1), (6, .seq (.flt .f32) y11.2.2.2.1), (7, .seq (.flt .f32) y11.2.2.2.2)], 12⟩ hP hN (by kernel_rfl) (allCons (f13_ok hc27) (allCons (f17_ok hc29) allNil)) ?_
            rcases of_bif hr with ⟨hb30, hr⟩ | ⟨hb30, hr⟩
            · refine HT.cond1 rfl hb30 ?_
              refine HT.reg1 [4] [⟨none, .no⟩] ⟨[(4, .one (.dat .bool false))], [(11, .seq (.int .i64) y26), (8, .seq (.flt .f32) y21.2.2.1), (9, .seq (.flt .f32) y21.2.2.2.1), (10, .seq (.flt .f32) y21.2.2.2.2), (0, .box [.dat (.int .i64) a0.1, .dat (.int .i64) a0.2.1, .dat (.sl (.flt .f32)) a0.2.2.1, .dat (.sl (.flt .f32)) a0.2.2.2.1, .dat (.sl (.flt .f32)) a0.2.2.2.2]), (1, .seq (.flt .f32) y9.1), (2, .box [.dat (.int .i64) y11.1, .dat (.int .i64) y11.2.1, .all 5, .all 6, .all 7]), (3, .seq (.int .i64) y13), (4, .seq (.flt .f32) y15.1), (5, .seq (.flt .f32) y11.2.2.1), (6, .seq (.flt .f32) y11.2.2.2.1), (7, .seq (.flt .f32) y11.2.2.2.2)], 12⟩ hP hN (by kernel_rfl) allNil ?_
              have hr := of_some hr
              subst hr
              exact HT.ret (qThenR ⟨[.one (.dat .bool false)], [], [], by kernel_rfl, by kernel_rfl, rfl, by kernel_rfl, by kernel_rfl, trivial⟩)
            · refine HT.cond0 rfl hb30 ?_
              refine HT.skip (qThen ?_)
              refine HT.reg1 [1, 2, 6, 7, 8, 9, 10, 11, 12] [⟨none, .no⟩] ⟨[(1, .one (.dat (.sl (.int .i64)) a1)), (2, .one (.ptr 0 0)), (6, .one (.all 1)), (7, .one (.dat .bool y9.2)), (8, .one (.ptr 2 0)), (9, .one (.all 3)), (10, .one (.all 4)), (11, .one (.dat .bool y15.2)), (12, .one (.dat (.int .i64) (1 : Int)))], [(11, .seq (.int .i64) y26), (8, .seq (.flt .f32) y21.2.2.1), (9, .seq (.flt .f32) y21.2.2.2.1), (10, .seq (.flt .f32) y21.2.2.2.2), (0, .box [.dat (.int .i64) a0.1, .dat (.int .i64) a0.2.1, .dat (.sl (.flt .f32)) a0.2.2.1, .dat (.sl (.flt .f32)) a0.2.2.2.1, .dat (.sl (.flt .f32)) a0.2.2.2.2]), (1, .seq (.flt .f32) y9.1), (2, .box [.dat (.int .i64) y11.1, .dat (.int .i64) y11.2.1, .all 5, .all 6, .all 7]), (3, .seq (.int .i64) y13), (4, .seq (.flt .f32) y15.1), (5, .seq (.flt .f32) y11.2.2.1), (6, .seq (.flt .f32) y11.2.2.2.1), (7, .seq (.flt .f32) y11.2.2.2.2)], 12⟩ hP hN (by kernel_rfl) allNil ?_
              obtain ⟨y31, hc32, hr⟩ := of_bind hr
              refine HT.reg1 [1, 2, 6, 7, 9, 10, 11, 12] [⟨none, .no⟩, ⟨none, .no⟩, ⟨none, .call [.own (.st (.pair (.int .i64) (.pair (.int .i64) (.pair (.sl (.flt .f32)) (.pair (.sl (.flt .f32)) (.sl (.flt .f32))))))), .imm (.int .i64)] [⟨false, (.int .i64), y31.1⟩] [⟨(.st (.pair (.int .i64) (.pair (.int .i64) (.pair (.sl (.flt .f32)) (.pair (.sl (.flt .f32)) (.sl (.flt .f32))))))), y31.2⟩]⟩, ⟨none, .no⟩] ⟨[(1, .one (.dat (.sl (.int .i64)) a1)), (2, .one (.ptr 0 0)), (6, .one (.all 1)), (7, .one (.dat .bool y9.2)), (9, .one (.all 3)), (10, .one (.all 4)), (11, .one (.dat .bool y15.2)), (12, .one (.dat (.int .i64) y31.1))], [(5, .seq (.flt .f32) y31.2.2.2.1), (6, .seq (.flt .f32) y31.2.2.2.2.1), (7, .seq (.flt .f32) y31.2.2.2.2.2), (11, .seq (.int .i64) y26), (8, .seq (.flt .f32) y21.2.2.1), (9, .seq (.flt .f32) y21.2.2.2.1), (10, .seq (.flt .f32) y21.2.2.2.2), (0, .box [.dat (.int .i64) a0.1, .dat (.int .i64) a0.2.1, .dat (.sl (.flt .f32)) a0.2.2.1, .dat (.sl (.flt .f32)) a0.2.2.2.1, .dat (.sl (.flt .f32)) a0.2.2.2.2]), (1, .seq (.flt .f32) y9.1), (2, .box [.dat (.int .i64) y11.1, .dat (.int .i64) y11.2.1, .all 5, .all 6, .all 7]), (3, .seq (.int .i64) y13), (4, .seq (.flt .f32) y15.1), (5, .seq (.flt .f32) y11.2.2.1), (6, .seq (.flt .f32) y11.2.2.2.1), (7, .seq (.flt .f32) y11.2.2.2.2)], 12⟩ hP hN (by kernel_rfl) (allCons (f18_ok hc32) allNil) ?_
              obtain ⟨y33, hc34, hr⟩ := of_bind hr
              refine HT.reg1 [1, 2, 6, 7, 10, 11, 12] [⟨none, .no⟩, ⟨none, .no⟩, ⟨none, .call [.own (.sl (.int .i64)), .imm (.int .i64)] [⟨false, (.int .i64), y33.1⟩] [⟨(.sl (.int .i64)), y33.2⟩]⟩, ⟨none, .no⟩] ⟨[(1, .one (.dat (.sl (.int .i64)) a1)), (2, .one (.ptr 0 0)), (6, .one (.all 1)), (7, .one (.dat .bool y9.2)), (10, .one (.all 4)), (11, .one (.dat .bool y15.2)), (12, .one (.dat (.int .i64) y33.1))], [(3, .seq (.int .i64) y33.2), (5, .seq (.flt .f32) y31.2.2.2.1), (6, .seq (.flt .f32) y31.2.2.2.2.1), (7, .seq (.flt .f32) y31.2.2.2.2.2), (11, .seq (.int .i64) y26), (8, .seq (.flt .f32) y21.2.2.1), (9, .seq (.flt .f32) y21.2.2.2.1), (10, .seq (.flt .f32) y21.2.2.2.2), (0, .box [.dat (.int .i64) a0.1, .dat (.int .i64) a0.2.1, .dat (.sl (.flt .f32)) a0.2.2.1, .dat (.sl (.flt .f32)) a0.2.2.2.1, .dat (.sl (.flt .f32)) a0.2.2.2.2]), (1, .seq (.flt .f32) y9.1), (2, .box [.dat (.int .i64) y11.1, .dat (.int .i64) y11.2.1, .all 5, .all 6, .all 7]), (3, .seq (.int .i64) y13), (4, .seq (.flt .f32) y15.1), (5, .seq (.flt .f32) y11.2.2.1), (6, .seq (.flt .f32) y11.2.2.2.1), (7, .seq (.flt .f32) y11.2.2.2.2)], 12⟩ hP hN (by kernel_rfl) (allCons (f19_ok hc34) allNil) ?_
              refine HT.seq ?_
              obtain ⟨v35', hT37, hr⟩ := of_bind hr
              refine HT.join (fun (v35 : Bool) => ⟨[(1, .one (.dat (.sl (.int .i64)) a1)), (2, .one (.ptr 0 0)), (6, .one (.all 1)), (7, .one (.dat .bool y9.2)), (10, .one (.all 2)), (80, .one (.dat .bool v35))], [(0, .box [.dat (.int .i64) a0.1, .dat (.int .i64) a0.2.1, .dat (.sl (.flt .f32)) a0.2.2.1, .dat (.sl (.flt .f32)) a0.2.2.2.1, .dat (.sl (.flt .f32)) a0.2.2.2.2]), (1, .seq (.flt .f32) y9.1), (2, .seq (.flt .f32) y15.1)], 3⟩) (fun v => v = v35') (fun v35 hv36 => ?_) (fun cont => ?_)
              · subst hv36
                rcases of_bif hr with ⟨hb38, hr⟩ | ⟨hb38, hr⟩
                · refine HT.cond1 rfl hb38 ?_
                  refine HT.reg1 [4] [⟨none, .no⟩] ⟨[(4, .one (.dat .bool false))], [(0, .box [.dat (.int .i64) a0.1, .dat (.int .i64) a0.2.1, .dat (.sl (.flt .f32)) a0.2.2.1, .dat (.sl (.flt .f32)) a0.2.2.2.1, .dat (.sl (.flt .f32)) a0.2.2.2.2]), (1, .seq (.flt .f32) y9.1), (2, .seq (.flt .f32) y15.1)], 3⟩ hP hN (by kernel_rfl) allNil ?_
                  have hr := of_some hr
                  subst hr
                  exact HT.ret (qThenR ⟨[.one (.dat .bool false)], [], [], by kernel_rfl, by kernel_rfl, rfl, by kernel_rfl, by kernel_rfl, trivial⟩)
                · refine HT.cond0 rfl hb38 ?_
                  refine HT.skip (qThen ?_)
                  refine HT.reg1 [1, 2, 6, 7, 10, 13] [⟨none, .no⟩] ⟨[(1, .one (.dat (.sl (.int .i64)) a1)), (2, .one (.ptr 0 0)), (6, .one (.all 1)), (7, .one (.dat .bool y9.2)), (10, .one (.all 2)), (13, .one (.dat (.int .i64) (1 : Int)))], [(0, .box [.dat (.int .i64) a0.1, .dat (.int .i64) a0.2.1, .dat (.sl (.flt .f32)) a0.2.2.1, .dat (.sl (.flt .f32)) a0.2.2.2.1, .dat (.sl (.flt .f32)) a0.2.2.2.2]), (1, .seq (.flt .f32) y9.1), (2, .seq (.flt .f32) y15.1)], 3⟩ hP hN (by kernel_rfl) allNil ?_
                  obtain ⟨y39, hc40, hr⟩ := of_bind hr
                  refine HT.reg1 [1, 2, 6, 7, 10, 13] [⟨none, .no⟩, ⟨none, .no⟩, ⟨none, .call [.own (.sl (.flt .f32)), .imm (.int .i64)] [⟨false, (.int .i64), y39.1⟩] [⟨(.sl (.flt .f32)), y39.2⟩]⟩, ⟨none, .no⟩] ⟨[(1, .one (.dat (.sl (.int .i64)) a1)), (2, .one (.ptr 0 0)), (6, .one (.all 1)), (7, .one (.dat .bool y9.2)), (10, .one (.all 2)), (13, .one (.dat (.int .i64) y39.1))], [(2, .seq (.flt .f32) y39.2), (0, .box [.dat (.int .i64) a0.1, .dat (.int .i64) a0.2.1, .dat (.sl (.flt .f32)) a0.2.2.1, .dat (.sl (.flt .f32)) a0.2.2.2.1, .dat (.sl (.flt .f32)) a0.2.2.2.2]), (1, .seq (.flt .f32) y9.1), (2, .seq (.flt .f32) y15.1)], 3⟩ hP hN (by kernel_rfl) (allCons (f20_ok hc40) allNil) ?_
                  refine HT.reg1 [1, 2, 6, 7, 10, 13, 14] [⟨none, .no⟩] ⟨[(1, .one (.dat (.sl (.int .i64)) a1)), (2, .one (.ptr 0 0)), (6, .one (.all 1)), (7, .one (.dat .bool y9.2)), (10, .one (.all 2)), (13, .one (.dat (.int .i64) y39.1)), (14, .one (.dat (.int .i64) (1 : Int)))], [(2, .seq (.flt .f32) y39.2), (0, .box [.dat (.int .i64) a0.1, .dat (.int .i64) a0.2.1, .dat (.sl (.flt .f32)) a0.2.2.1, .dat (.sl (.flt .f32)) a0.2.2.2.1, .dat (.sl (.flt .f32)) a0.2.2.2.2]), (1, .seq (.flt .f32) y9.1), (2, .seq (.flt .f32) y15.1)], 3⟩ hP hN (by kernel_rfl) allNil ?_
                  obtain ⟨y41, hc42, hr⟩ := of_bind hr
                  refine HT.reg1 [1, 2, 6, 7, 10, 13, 14] [⟨none, .no⟩, ⟨none, .no⟩, ⟨none, .call [.imm (.sl (.flt .f32)), .imm (.int .i64)] [⟨false, (.int .i64), y41⟩] []⟩, ⟨none, .no⟩] ⟨[(1, .one (.dat (.sl (.int .i64)) a1)), (2, .one (.ptr 0 0)), (6, .one (.all 1)), (7, .one (.dat .bool y9.2)), (10, .one (.all 2)), (13, .one (.dat (.int .i64) y39.1)), (14, .one (.dat (.int .i64) y41))], [(2, .seq (.flt .f32) y39.2), (0, .box [.dat (.int .i64) a0.1, .dat (.int .i64) a0.2.1, .dat (.sl (.flt .f32)) a0.2.2.1, .dat (.sl (.flt .f32)) a0.2.2.2.1, .dat (.sl (.flt .f32)) a0.2.2.2.2]), (1, .seq (.flt .f32) y9.1), (2, .seq (.flt .f32) y15.1)], 3⟩ hP hN (by kernel_rfl) (allCons (f21_ok hc42) allNil) ?_
                  refine HT.seq ?_
                  refine HT.reg1 [1, 2, 6, 7, 10, 13, 14, 88] [⟨none, .no⟩, ⟨none, .no⟩] ⟨[(1, .one (.dat (.sl (.int .i64)) a1)), (2, .one (.ptr 0 0)), (6, .one (.all 1)), (7, .one (.dat .bool y9.2)), (10, .one (.all 2)), (13, .one (.dat (.int .i64) y39.1)), (14, .one (.dat (.int .i64) y41)), (88, .one (.dat .bool (decide (y41 < (0 : Int)))))], [(2, .seq (.flt .f32) y39.2), (0, .box [.dat (.int .i64) a0.1, .dat (.int .i64) a0.2.1, .dat (.sl (.flt .f32)) a0.2.2.1, .dat (.sl (.flt .f32)) a0.2.2.2.1, .dat (.sl (.flt .f32)) a0.2.2.2.2]), (1, .seq (.flt .f32) y9.1), (2, .seq (.flt .f32) y15.1)], 3⟩ hP hN (by kernel_rfl) allNil ?_
                  rcases of_bif hr with ⟨hb43, hr⟩ | ⟨hb43, hr⟩
                  · refine HT.cond1 rfl hb43 ?_
                    refine HT.reg1 [4] [⟨none, .no⟩] ⟨[(4, .one (.dat .bool false))], [(2, .seq (.flt .f32) y39.2), (0, .box [.dat (.int .i64) a0.1, .dat (.int .i64) a0.2.1, .dat (.sl (.flt .f32)) a0.2.2.1, .dat (.sl (.flt .f32)) a0.2.2.2.1, .dat (.sl (.flt .f32)) a0.2.2.2.2]), (1, .seq (.flt .f32) y9.1), (2, .seq (.flt .f32) y15.1)], 3⟩ hP hN (by kernel_rfl) allNil ?_
                    have hr := of_some hr
                    subst hr
                    exact HT.ret (qThenR ⟨[.one (.dat .bool false)], [], [], by kernel_rfl, by kernel_rfl, rfl, by kernel_rfl, by kernel_rfl, trivial⟩)
                  · refine HT.cond0 rfl hb43 ?_
                    refine HT.skip (qThen ?_)
                    refine HT.seq ?_
                    refine HT.reg1 [1, 2, 6, 7, 10, 13, 91] [⟨none, .no⟩, ⟨none, .no⟩, ⟨none, .no⟩] ⟨[(1, .one (.dat (.sl (.int .i64)) a1)), (2, .one (.ptr 0 0)), (6, .one (.all 1)), (7, .one (.dat .bool y9.2)), (10, .one (.all 2)), (13, .one (.dat (.int .i64) y39.1)), (91, .one (.dat .bool (y41 != y39.1)))], [(2, .seq (.flt .f32) y39.2), (0, .box [.dat (.int .i64) a0.1, .dat (.int .i64) a0.2.1, .dat (.sl (.flt .f32)) a0.2.2.1, .dat (.sl (.flt .f32)) a0.2.2.2.1, .dat (.sl (.flt .f32)) a0.2.2.2.2]), (1, .seq (.flt .f32) y9.1), (2, .seq (.flt .f32) y15.1)], 3⟩ hP hN (by kernel_rfl) allNil ?_
                    rcases of_bif hr with ⟨hb44, hr⟩ | ⟨hb44, hr⟩
                    · refine HT.cond1 rfl hb44 ?_
                      refine HT.reg1 [4] [⟨none, .no⟩] ⟨[(4, .one (.dat .bool false))], [(2, .seq (.flt .f32) y39.2), (0, .box [.dat (.int .i64) a0.1, .dat (.int .i64) a0.2.1, .dat (.sl (.flt .f32)) a0.2.2.1, .dat (.sl (.flt .f32)) a0.2.2.2.1, .dat (.sl (.flt .f32)) a0.2.2.2.2]), (1, .seq (.flt .f32) y9.1), (2, .seq (.flt .f32) y15.1)], 3⟩ hP hN (by kernel_rfl) allNil ?_
                      have hr := of_some hr
                      subst hr
                      exact HT.ret (qThenR ⟨[.one (.dat .bool false)], [], [], by kernel_rfl, by kernel_rfl, rfl, by kernel_rfl, by kernel_rfl, trivial⟩)
                    · refine HT.cond0 rfl hb44 ?_
                      refine HT.skip (qThen ?_)
                      obtain ⟨y45, hc46, hr⟩ := of_bind hr
                      obtain ⟨y47, hc48, hr⟩ := of_bind hr
                      obtain ⟨y49, hc50, hr⟩ := of_bind hr
                      refine HT.reg1 [6, 7, 10, 13, 15, 16] [⟨none, .no⟩, ⟨none, .call [.imm (.st (.pair (.int .i64) (.pair (.int .i64) (.pair (.sl (.flt .f32)) (.pair (.sl (.flt .f32)) (.sl (.flt .f32)))))))] [⟨true, (.st (.pair (.int .i64) (.pair (.int .i64) (.pair (.sl (.flt .f32)) (.pair (.sl (.flt .f32)) (.sl (.flt .f32))))))), y45⟩] []⟩, ⟨none, .no⟩, ⟨none, .call [.imm (.sl (.int .i64))] [⟨true, (.sl (.int .i64)), y47⟩] []⟩, ⟨none, .call [.imm (.st (.pair (.int .i64) (.pair (.int .i64) (.pair (.sl (.flt .f32)) (.pair (.sl (.flt .f32)) (.sl (.flt .f32))))))), .imm (.sl (.int .i64))] [⟨true, (.sl (.flt .f32)), y49.1⟩, ⟨false, .bool, y49.2⟩] []⟩, ⟨none, .no⟩, ⟨none, .no⟩, ⟨none, .no⟩, ⟨none, .no⟩, ⟨none, .no⟩] ⟨[(6, .one (.all 1)), (7, .one (.dat .bool y9.2)), (10, .one (.all 2)), (13, .one (.dat (.int .i64) y39.1)), (15, .one (.all 7)), (16, .one (.dat .bool y49.2))], [(7, .seq (.flt .f32) y49.1), (6, .seq (.int .i64) y47), (3, .seq (.flt .f32) y45.2.2.1), (4, .seq (.flt .f32) y45.2.2.2.1), (5, .seq (.flt .f32) y45.2.2.2.2), (2, .seq (.flt .f32) y39.2), (0, .box [.dat (.int .i64) a0.1, .dat (.int .i64) a0.2.1, .dat (.sl (.flt .f32)) a0.2.2.1, .dat (.sl (.flt .f32)) a0.2.2.2.1, .dat (.sl (.flt .f32)) a0.2.2.2.2]), (1, .seq (.flt .f32) y9.1), (2, .seq (.flt .f32) y15.1)], 8⟩ hP hN (by kernel_rfl) (allCons (f12_ok hc46) (allCons (f13_ok hc48) (allCons (f14_ok hc50) allNil))) ?_
                      refine HT.seq ?_
                      obtain ⟨v51', hT53, hr⟩ := of_bind hr
                      refine HT.join (fun (v51 : Bool) => ⟨[(10, .one (.all 0)), (13, .one (.dat (.int .i64) y39.1)), (108, .one (.dat .bool v51))], [(0, .seq (.flt .f32) y39.2)], 1⟩) (fun v => v = v51') (fun v51 hv52 => ?_) (fun cont => ?_)
                      · subst hv52
                        rcases of_bif hr with ⟨hb54, hr⟩ | ⟨hb54, hr⟩
                        · refine HT.cond1 rfl hb54 ?_
                          refine HT.reg1 [4] [⟨none, .no⟩] ⟨[(4, .one (.dat .bool false))], [(0, .seq (.flt .f32) y39.2)], 1⟩ hP hN (by kernel_rfl) allNil ?_
                          have hr := of_some hr
                          subst hr
                          exact HT.ret (qThenR ⟨[.one (.dat .bool false)], [], [], by kernel_rfl, by kernel_rfl, rfl, by kernel_rfl, by kernel_rfl, trivial⟩)
                        · refine HT.cond0 rfl hb54 ?_
                          refine HT.skip (qThen ?_)
                          refine HT.reg1 [10, 13, 14] [⟨none, .no⟩] ⟨[(10, .one (.all 0)), (13, .one (.dat (.int .i64) y39.1)), (14, .one (.dat (.int .i64) (1 : Int)))], [(0, .seq (.flt .f32) y39.2)], 1⟩ hP hN (by kernel_rfl) allNil ?_
                          obtain ⟨y55, hc56, hr⟩ := of_bind hr
                          refine HT.reg1 [13, 14] [⟨none, .no⟩, ⟨none, .no⟩, ⟨none, .call [.imm (.sl (.flt .f32)), .imm (.int .i64)] [⟨false, (.int .i64), y55⟩] []⟩, ⟨none, .no⟩] ⟨[(13, .one (.dat (.int .i64) y39.1)), (14, .one (.dat (.int .i64) y55))], [(0, .seq (.flt .f32) y39.2)], 1⟩ hP hN (by kernel_rfl) (allCons (f21_ok hc56) allNil) ?_
                          refine HT.seq ?_
                          refine HT.reg1 [13, 14, 113] [⟨none, .no⟩, ⟨none, .no⟩] ⟨[(13, .one (.dat (.int .i64) y39.1)), (14, .one (.dat (.int .i64) y55)), (113, .one (.dat .bool (decide (y55 < (0 : Int)))))], [(0, .seq (.flt .f32) y39.2)], 1⟩ hP hN (by kernel_rfl) allNil ?_
                          rcases of_bif hr with ⟨hb57, hr⟩ | ⟨hb57, hr⟩
                          · refine HT.cond1 rfl hb57 ?_
                            refine HT.reg1 [4] [⟨none, .no⟩] ⟨[(4, .one (.dat .bool false))], [(0, .seq (.flt .f32) y39.2)], 1⟩ hP hN (by kernel_rfl) allNil ?_
                            have hr := of_some hr
                            subst hr
                            exact HT.ret (qThenR ⟨[.one (.dat .bool false)], [], [], by kernel_rfl, by kernel_rfl, rfl, by kernel_rfl, by kernel_rfl, trivial⟩)
                          · refine HT.cond0 rfl hb57 ?_
                            refine HT.skip (qThen ?_)
                            refine HT.seq ?_
                            refine HT.reg1 [116] [⟨none, .no⟩, ⟨none, .no⟩, ⟨none, .no⟩] ⟨[(116, .one (.dat .bool (y55 != y39.1)))], [(0, .seq (.flt .f32) y39.2)], 1⟩ hP hN (by kernel_rfl) allNil ?_
                            rcases of_bif hr with ⟨hb58, hr⟩ | ⟨hb58, hr⟩
                            · refine HT.cond1 rfl hb58 ?_
                              refine HT.reg1 [4] [⟨none, .no⟩] ⟨[(4, .one (.dat .bool false))], [(0, .seq (.flt .f32) y39.2)], 1⟩ hP hN (by kernel_rfl) allNil ?_
                              have hr := of_some hr
                              subst hr
                              exact HT.ret (qThenR ⟨[.one (.dat .bool false)], [], [], by kernel_rfl, by kernel_rfl, rfl, by kernel_rfl, by kernel_rfl, trivial⟩)
                            · refine HT.cond0 rfl hb58 ?_
                              refine HT.skip (qThen ?_)
                              refine HT.reg1 [4] [⟨none, .no⟩] ⟨[(4, .one (.dat .bool true))], [(0, .seq (.flt .f32) y39.2)], 1⟩ hP hN (by kernel_rfl) allNil ?_
                              have hr := of_some hr
                              subst hr
                              exact HT.ret ⟨[.one (.dat .bool true)], [], [], by kernel_rfl, by kernel_rfl, rfl, by kernel_rfl, by kernel_rfl, trivial⟩
                      · obtain ⟨y59, hc60, hT53⟩ := of_bind hT53
                        rcases of_bif hT53 with ⟨hb61, hT53⟩ | ⟨hb61, hT53⟩
                        · refine HT.reg (rs := [⟨none, .no⟩, ⟨none, .no⟩, ⟨none, .call [.imm (.sl (.flt .f32)), .imm (.sl (.flt .f32))] [⟨false, .bool, y59⟩] []⟩, ⟨none, .no⟩, ⟨none, .no⟩, ⟨some true, .no⟩, ⟨some true, .no⟩, ⟨some true, .no⟩, ⟨none, .tv true⟩]) (st' := ⟨[(108, .one (.dat .bool true)), (107, .und), (106, .und), (105, .und), (104, .one (.dat .bool (!y59))), (103, .one (.dat .bool (!y59))), (102, .one (.dat .bool y59)), (101, .one (.all 1)), (100, .one (.all 7)), (6, .one (.all 1)), (7, .one (.dat .bool y9.2)), (10, .one (.all 2)), (13, .one (.dat (.int .i64) y39.1)), (15, .one (.all 7)), (16, .one (.dat .bool y49.2))], [(7, .seq (.flt .f32) y49.1), (6, .seq (.int .i64) y47), (3, .seq (.flt .f32) y45.2.2.1), (4, .seq (.flt .f32) y45.2.2.2.1), (5, .seq (.flt .f32) y45.2.2.2.2), (2, .seq (.flt .f32) y39.2), (0, .box [.dat (.int .i64) a0.1, .dat (.int .i64) a0.2.1, .dat (.sl (.flt .f32)) a0.2.2.1, .dat (.sl (.flt .f32)) a0.2.2.2.1, .dat (.sl (.flt .f32)) a0.2.2.2.2]), (1, .seq (.flt .f32) y9.1), (2, .seq (.flt .f32) y15.1)], 8⟩) hP hN (by kernel_rfl) (allCons (f15_ok hc60) (allCons hb61 (allCons hb61 (allCons hb61 (allCons hb61 allNil))))) (qThen ?_)
                          exact (Le.cv (s := ⟨[(2, 0)], [], [], false⟩) (own := []) (ps := [y39.1 = y39.1, true = true, y39.2 = y39.2]) (st' := ⟨[(10, .one (.all 0)), (13, .one (.dat (.int .i64) y39.1)), (108, .one (.dat .bool true))], [(0, .seq (.flt .f32) y39.2)], 1⟩) hO (fun h => by cases h) (by kernel_rfl) ⟨rfl, rfl, rfl, trivial⟩).ht (cont true (of_some hT53))
                        · refine HT.reg (rs := [⟨none, .no⟩, ⟨none, .no⟩, ⟨none, .call [.imm (.sl (.flt .f32)), .imm (.sl (.flt .f32))] [⟨false, .bool, y59⟩] []⟩, ⟨none, .no⟩, ⟨none, .no⟩, ⟨some false, .no⟩, ⟨some false, .no⟩, ⟨some false, .no⟩, ⟨none, .tv false⟩]) (st' := ⟨[(108, .one (.dat .bool (y49.2 != y9.2))), (107, .one (.dat .bool (y49.2 != y9.2))), (106, .one (.dat .bool y9.2)), (105, .one (.dat .bool y49.2)), (104, .one (.dat .bool (!y59))), (103, .one (.dat .bool (!y59))), (102, .one (.dat .bool y59)), (101, .one (.all 1)), (100, .one (.all 7)), (6, .one (.all 1)), (7, .one (.dat .bool y9.2)), (10, .one (.all 2)), (13, .one (.dat (.int .i64) y39.1)), (15, .one (.all 7)), (16, .one (.dat .bool y49.2))], [(7, .seq (.flt .f32) y49.1), (6, .seq (.int .i64) y47), (3, .seq (.flt .f32) y45.2.2.1), (4, .seq (.flt .f32) y45.2.2.2.1), (5, .seq (.flt .f32) y45.2.2.2.2), (2, .seq (.flt .f32) y39.2), (0, .box [.dat (.int .i64) a0.1, .dat (.int .i64) a0.2.1, .dat (.sl (.flt .f32)) a0.2.2.1, .dat (.sl (.flt .f32)) a0.2.2.2.1, .dat (.sl (.flt .f32)) a0.2.2.2.2]), (1, .seq (.flt .f32) y9.1), (2, .seq (.flt .f32) y15.1)], 8⟩) hP hN (by kernel_rfl) (allCons (f15_ok hc60) (allCons hb61 (allCons hb61 (allCons hb61 (allCons hb61 allNil))))) (qThen ?_)
                          exact (Le.cv (s := ⟨[(2, 0)], [], [], false⟩) (own := []) (ps := [y39.1 = y39.1, (y49.2 != y9.2) = (y49.2 != y9.2), y39.2 = y39.2]) (st' := ⟨[(10, .one (.all 0)), (13, .one (.dat (.int .i64) y39.1)), (108, .one (.dat .bool (y49.2 != y9.2)))], [(0, .seq (.flt .f32) y39.2)], 1⟩) hO (fun h => by cases h) (by kernel_rfl) ⟨rfl, rfl, rfl, trivial⟩).ht (cont (y49.2 != y9.2) (of_some hT53))
              · rcases of_bif hT37 with ⟨hb62, hT37⟩ | ⟨hb62, hT37⟩
                · refine HT.reg (rs := [⟨none, .no⟩, ⟨none, .no⟩, ⟨none, .no⟩, ⟨some true, .no⟩, ⟨some true, .no⟩, ⟨some true, .no⟩, ⟨some true, .no⟩, ⟨none, .tv true⟩, ⟨none, .no⟩, ⟨some true, .no⟩, ⟨some true, .no⟩, ⟨some true, .no⟩, ⟨none, .tv true⟩]) (st' := ⟨[(80, .one (.dat .bool true)), (79, .und), (78, .und), (77, .und), (76, .one (.dat .bool true)), (75, .one (.dat .bool true)), (74, .und), (73, .und), (72, .und), (71, .und), (70, .one (.dat .bool (decide (y33.1 < (0 : Int))))), (69, .one (.dat .bool (decide (y33.1 < (0 : Int))))), (68, .one (.dat (.int .i64) y33.1)), (1, .one (.dat (.sl (.int .i64)) a1)), (2, .one (.ptr 0 0)), (6, .one (.all 1)), (7, .one (.dat .bool y9.2)), (10, .one (.all 4)), (11, .one (.dat .bool y15.2)), (12, .one (.dat (.int .i64) y33.1))], [(3, .seq (.int .i64) y33.2), (5, .seq (.flt .f32) y31.2.2.2.1), (6, .seq (.flt .f32) y31.2.2.2.2.1), (7, .seq (.flt .f32) y31.2.2.2.2.2), (11, .seq (.int .i64) y26), (8, .seq (.flt .f32) y21.2.2.1), (9, .seq (.flt .f32) y21.2.2.2.1), (10, .seq (.flt .f32) y21.2.2.2.2), (0, .box [.dat (.int .i64) a0.1, .dat (.int .i64) a0.2.1, .dat (.sl (.flt .f32)) a0.2.2.1, .dat (.sl (.flt .f32)) a0.2.2.2.1, .dat (.sl (.flt .f32)) a0.2.2.2.2]), (1, .seq (.flt .f32) y9.1), (2, .box [.dat (.int .i64) y11.1, .dat (.int .i64) y11.2.1, .all 5, .all 6, .all 7]), (3, .seq (.int .i64) y13), (4, .seq (.flt .f32) y15.1), (5, .seq (.flt .f32) y11.2.2.1), (6, .seq (.flt .f32) y11.2.2.2.1), (7, .seq (.flt .f32) y11.2.2.2.2)], 12⟩) hP hN (by kernel_rfl) (allCons hb62 (allCons hb62 (allCons hb62 (allCons hb62 (allCons hb62 (allCons (rfl : true = true) (allCons (rfl : true = true) (allCons (rfl : true = true) (allCons (rfl : true = true) allNil))))))))) (qThen ?_)
                  exact (Le.cv (s := ⟨[(0, 0), (1, 1), (4, 2)], [], [], false⟩) (own := []) (ps := [a1 = a1, y9.2 = y9.2, true = true, a0.1 = a0.1, a0.2.1 = a0.2.1, a0.2.2.1 = a0.2.2.1, a0.2.2.2.1 = a0.2.2.2.1, a0.2.2.2.2 = a0.2.2.2.2, y9.1 = y9.1, y15.1 = y15.1]) (st' := ⟨[(1, .one (.dat (.sl (.int .i64)) a1)), (2, .one (.ptr 0 0)), (6, .one (.all 1)), (7, .one (.dat .bool y9.2)), (10, .one (.all 2)), (80, .one (.dat .bool true))], [(0, .box [.dat (.int .i64) a0.1, .dat (.int .i64) a0.2.1, .dat (.sl (.flt .f32)) a0.2.2.1, .dat (.sl (.flt .f32)) a0.2.2.2.1, .dat (.sl (.flt .f32)) a0.2.2.2.2]), (1, .seq (.flt .f32) y9.1), (2, .seq (.flt .f32) y15.1)], 3⟩) hO (fun h => by cases h) (by kernel_rfl) ⟨rfl, rfl, rfl, rfl, rfl, rfl, rfl, rfl, rfl, rfl, trivial⟩).ht (cont true (of_some hT37))
                · obtain ⟨y63, hc64, hT37⟩ := of_bind hT37
                  rcases of_bif hT37 with ⟨hb65, hT37⟩ | ⟨hb65, hT37⟩
                  · refine HT.reg (rs := [⟨none, .no⟩, ⟨none, .no⟩, ⟨none, .no⟩, ⟨some false, .no⟩, ⟨some false, .no⟩, ⟨some false, .call [.imm (.sl (.flt .f32)), .imm (.sl (.flt .f32))] [⟨false, .bool, y63⟩] []⟩, ⟨some false, .no⟩, ⟨none, .tv false⟩, ⟨none, .no⟩, ⟨some true, .no⟩, ⟨some true, .no⟩, ⟨some true, .no⟩, ⟨none, .tv true⟩]) (st' := ⟨[(80, .one (.dat .bool true)), (79, .und), (78, .und), (77, .und), (76, .one (.dat .bool (!y63))), (75, .one (.dat .bool (!y63))), (74, .one (.dat .bool (!y63))), (73, .one (.dat .bool y63)), (72, .one (.all 1)), (71, .one (.all 4)), (70, .one (.dat .bool (decide (y33.1 < (0 : Int))))), (69, .one (.dat .bool (decide (y33.1 < (0 : Int))))), (68, .one (.dat (.int .i64) y33.1)), (1, .one (.dat (.sl (.int .i64)) a1)), (2, .one (.ptr 0 0)), (6, .one (.all 1)), (7, .one (.dat .bool y9.2)), (10, .one (.all 4)), (11, .one (.dat .bool y15.2)), (12, .one (.dat (.int .i64) y33.1))], [(3, .seq (.int .i64) y33.2), (5, .seq (.flt .f32) y31.2.2.2.1), (6, .seq (.flt .f32) y31.2.2.2.2.1), (7, .seq (.flt .f32) y31.2.2.2.2.2), (11, .seq (.int .i64) y26), (8, .seq (.flt .f32) y21.2.2.1), (9, .seq (.flt .f32) y21.2.2.2.1), (10, .seq (.flt .f32) y21.2.2.2.2), (0, .box [.dat (.int .i64) a0.1, .dat (.int .i64) a0.2.1, .dat (.sl (.flt .f32)) a0.2.2.1, .dat (.sl (.flt .f32)) a0.2.2.2.1, .dat (.sl (.flt .f32)) a0.2.2.2.2]), (1, .seq (.flt .f32) y9.1), (2, .box [.dat (.int .i64) y11.1, .dat (.int .i64) y11.2.1, .all 5, .all 6, .all 7]), (3, .seq (.int .i64) y13), (4, .seq (.flt .f32) y15.1), (5, .seq (.flt .f32) y11.2.2.1), (6, .seq (.flt .f32) y11.2.2.2.1), (7, .seq (.flt .f32) y11.2.2.2.2)], 12⟩) hP hN (by kernel_rfl) (allCons hb62 (allCons hb62 (allCons hb62 (allCons (f15_ok hc64) (allCons hb62 (allCons hb62 (allCons hb65 (allCons hb65 (allCons hb65 (allCons hb65 allNil)))))))))) (qThen ?_)
                    exact (Le.cv (s := ⟨[(0, 0), (1, 1), (4, 2)], [], [], false⟩) (own := []) (ps := [a1 = a1, y9.2 = y9.2, true = true, a0.1 = a0.1, a0.2.1 = a0.2.1, a0.2.2.1 = a0.2.2.1, a0.2.2.2.1 = a0.2.2.2.1, a0.2.2.2.2 = a0.2.2.2.2, y9.1 = y9.1, y15.1 = y15.1]) (st' := ⟨[(1, .one (.dat (.sl (.int .i64)) a1)), (2, .one (.ptr 0 0)), (6, .one (.all 1)), (7, .one (.dat .bool y9.2)), (10, .one (.all 2)), (80, .one (.dat .bool true))], [(0, .box [.dat (.int .i64) a0.1, .dat (.int .i64) a0.2.1, .dat (.sl (.flt .f32)) a0.2.2.1, .dat (.sl (.flt .f32)) a0.2.2.2.1, .dat (.sl (.flt .f32)) a0.2.2.2.2]), (1, .seq (.flt .f32) y9.1), (2, .seq (.flt .f32) y15.1)], 3⟩) hO (fun h => by cases h) (by kernel_rfl) ⟨rfl, rfl, rfl, rfl, rfl, rfl, rfl, rfl, rfl, rfl, trivial⟩).ht (cont true (of_some hT37))
                  · refine HT.reg (rs := [⟨none, .no⟩, ⟨none, .no⟩, ⟨none, .no⟩, ⟨some false, .no⟩, ⟨some false, .no⟩, ⟨some false, .call [.imm (.sl (.flt .f32)), .imm (.sl (.flt .f32))] [⟨false, .bool, y63⟩] []⟩, ⟨some false, .no⟩, ⟨none, .tv false⟩, ⟨none, .no⟩, ⟨some false, .no⟩, ⟨some false, .no⟩, ⟨some false, .no⟩, ⟨none, .tv false⟩]) (st' := ⟨[(80, .one (.dat .bool (y15.2 != y9.2))), (79, .one (.dat .bool (y15.2 != y9.2))), (78, .one (.dat .bool y9.2)), (77, .one (.dat .bool y15.2)), (76, .one (.dat .bool (!y63))), (75, .one (.dat .bool (!y63))), (74, .one (.dat .bool (!y63))), (73, .one (.dat .bool y63)), (72, .one (.all 1)), (71, .one (.all 4)), (70, .one (.dat .bool (decide (y33.1 < (0 : Int))))), (69, .one (.dat .bool (decide (y33.1 < (0 : Int))))), (68, .one (.dat (.int .i64) y33.1)), (1, .one (.dat (.sl (.int .i64)) a1)), (2, .one (.ptr 0 0)), (6, .one (.all 1)), (7, .one (.dat .bool y9.2)), (10, .one (.all 4)), (11, .one (.dat .bool y15.2)), (12, .one (.dat (.int .i64) y33.1))], [(3, .seq (.int .i64) y33.2), (5, .seq (.flt .f32) y31.2.2.2.1), (6, .seq (.flt .f32) y31.2.2.2.2.1), (7, .seq (.flt .f32) y31.2.2.2.2.2), (11, .seq (.int .i64) y26), (8, .seq (.flt .f32) y21.2.2.1), (9, .seq (.flt .f32) y21.2.2.2.1), (10, .seq (.flt .f32) y21.2.2.2.2), (0, .box [.dat (.int .i64) a0.1, .dat (.int .i64) a0.2.1, .dat (.sl (.flt .f32)) a0.2.2.1, .dat (.sl (.flt .f32)) a0.2.2.2.1, .dat (.sl (.flt .f32)) a0.2.2.2.2]), (1, .seq (.flt .f32) y9.1), (2, .box [.dat (.int .i64) y11.1, .dat (.int .i64) y11.2.1, .all 5, .all 6, .all 7]), (3, .seq (.int .i64) y13), (4, .seq (.flt .f32) y15.1), (5, .seq (.flt .f32) y11.2.2.1), (6, .seq (.flt .f32) y11.2.2.2.1), (7, .seq (.flt .f32) y11.2.2.2.2)], 12⟩) hP hN (by kernel_rfl) (allCons hb62 (allCons hb62 (allCons hb62 (allCons (f15_ok hc64) (allCons hb62 (allCons hb62 (allCons hb65 (allCons hb65 (allCons hb65 (allCons hb65 allNil)))))))))) (qThen ?_)
                    exact (Le.cv (s := ⟨[(0, 0), (1, 1), (4, 2)], [], [], false⟩) (own := []) (ps := [a1 = a1, y9.2 = y9.2, (y15.2 != y9.2) = (y15.2 != y9.2), a0.1 = a0.1, a0.2.1 = a0.2.1, a0.2.2.1 = a0.2.2.1, a0.2.2.2.1 = a0.2.2.2.1, a0.2.2.2.2 = a0.2.2.2.2, y9.1 = y9.1, y15.1 = y15.1]) (st' := ⟨[(1, .one (.dat (.sl (.int .i64)) a1)), (2, .one (.ptr 0 0)), (6, .one (.all 1)), (7, .one (.dat .bool y9.2)), (10, .one (.all 2)), (80, .one (.dat .bool (y15.2 != y9.2)))], [(0, .box [.dat (.int .i64) a0.1, .dat (.int .i64) a0.2.1, .dat (.sl (.flt .f32)) a0.2.2.1, .dat (.sl (.flt .f32)) a0.2.2.2.1, .dat (.sl (.flt .f32)) a0.2.2.2.2]), (1, .seq (.flt .f32) y9.1), (2, .seq (.flt .f32) y15.1)], 3⟩) hO (fun h => by cases h) (by kernel_rfl) ⟨rfl, rfl, rfl, rfl, rfl, rfl, rfl, rfl, rfl, rfl, trivial⟩).ht (cont (y15.2 != y9.2) (of_some hT37))
      · obtain ⟨y66, hc67, hT19⟩ := of_bind hT19
        rcases of_bif hT19 with ⟨hb68, hT19⟩ | ⟨hb68, hT19⟩
        · refine HT.reg (rs := [⟨none, .no⟩, ⟨none, .no⟩, ⟨none, .call [.imm (.sl (.flt .f32)), .imm (.sl (.flt .f32))] [⟨false, .bool, y66⟩] []⟩, ⟨none, .no⟩, ⟨none, .no⟩, ⟨some true, .no⟩, ⟨some true, .no⟩, ⟨some true, .no⟩, ⟨none, .tv true⟩]) (st' := ⟨[(51, .one (.dat .bool true)), (50, .und), (49, .und), (48, .und), (47, .one (.dat .bool (!y66))), (46, .one (.dat .bool (!y66))), (45, .one (.dat .bool y66)), (44, .one (.all 5)), (43, .one (.all 11)), (1, .one (.dat (.sl (.int .i64)) a1)), (2, .one (.ptr 0 0)), (6, .one (.all 5)), (7, .one (.dat .bool y9.2)), (8, .one (.ptr 9 0)), (9, .one (.all 10)), (10, .one (.all 11)), (11, .one (.dat .bool y15.2))], [(11, .seq (.flt .f32) y15.1), (10, .seq (.int .i64) y13), (9, .box [.dat (.int .i64) y11.1, .dat (.int .i64) y11.2.1, .all 6, .all 7, .all 8]), (9, .box [.dat (.int .i64) (0 : Int), .dat (.int .i64) (0 : Int), .nilS, .nilS, .nilS]), (6, .seq (.flt .f32) y11.2.2.1), (7, .seq (.flt .f32) y11.2.2.2.1), (8, .seq (.flt .f32) y11.2.2.2.2), (5, .seq (.flt .f32) y9.1), (4, .seq (.int .i64) y7), (1, .seq (.flt .f32) y5.2.2.1), (2, .seq (.flt .f32) y5.2.2.2.1), (3, .seq (.flt .f32) y5.2.2.2.2), (0, .box [.dat (.int .i64) a0.1, .dat (.int .i64) a0.2.1, .dat (.sl (.flt .f32)) a0.2.2.1, .dat (.sl (.flt .f32)) a0.2.2.2.1, .dat (.sl (.flt .f32)) a0.2.2.2.2])], 12⟩) hP hN (by kernel_rfl) (allCons (f15_ok hc67) (allCons hb68 (allCons hb68 (allCons hb68 (allCons hb68 allNil))))) (qThen ?_)
          exact (Le.cv (s := ⟨[(0, 0), (5, 1), (9, 2), (10, 3), (11, 4), (6, 5), (7, 6), (8, 7)], [], [], false⟩) (own := []) (ps := [a1 = a1, y9.2 = y9.2, y15.2 = y15.2, true = true, a0.1 = a0.1, a0.2.1 = a0.2.1, a0.2.2.1 = a0.2.2.1, a0.2.2.2.1 = a0.2.2.2.1, a0.2.2.2.2 = a0.2.2.2.2, y9.1 = y9.1, y11.1 = y11.1, y11.2.1 = y11.2.1, y13 = y13, y15.1 = y15.1, y11.2.2.1 = y11.2.2.1, y11.2.2.2.1 = y11.2.2.2.1, y11.2.2.2.2 = y11.2.2.2.2]) (st' := ⟨[(1, .one (.dat (.sl (.int .i64)) a1)), (2, .one (.ptr 0 0)), (6, .one (.all 1)), (7, .one (.dat .bool y9.2)), (8, .one (.ptr 2 0)), (9, .one (.all 3)), (10, .one (.all 4)), (11, .one (.dat .bool y15.2)), (51, .one (.dat .bool true))], [(0, .box [.dat (.int .i64) a0.1, .dat (.int .i64) a0.2.1, .dat (.sl (.flt .f32)) a0.2.2.1, .dat (.sl (.flt .f32)) a0.2.2.2.1, .dat (.sl (.flt .f32)) a0.2.2.2.2]), (1, .seq (.flt .f32) y9.1), (2, .box [.dat (.int .i64) y11.1, .dat (.int .i64) y11.2.1, .all 5, .all 6, .all 7]), (3, .seq (.int .i64) y13), (4, .seq (.flt .f32) y15.1), (5, .seq (.flt .f32) y11.2.2.1), (6, .seq (.flt .f32) y11.2.2.2.1), (7, .seq (.flt .f32) y11.2.2.2.2)], 8⟩) hO (fun h => by cases h) (by kernel_rfl) ⟨rfl, rfl, rfl, rfl, rfl, rfl, rfl, rfl, rfl, rfl, rfl, rfl, rfl, rfl, rfl, rfl, rfl, trivial⟩).ht (cont true (of_some hT19))
        · refine HT.reg (rs := [⟨none, .no⟩, ⟨none, .no⟩, ⟨none, .call [.imm (.sl (.flt .f32)), .imm (.sl (.flt .f32))] [⟨false, .bool, y66⟩] []⟩, ⟨none, .no⟩, ⟨none, .no⟩, ⟨some false, .no⟩, ⟨some false, .no⟩, ⟨some false, .no⟩, ⟨none, .tv false⟩]) (st' := ⟨[(51, .one (.dat .bool (y15.2 != y9.2))), (50, .one (.dat .bool (y15.2 != y9.2))), (49, .one (.dat .bool y9.2)), (48, .one (.dat .bool y15.2)), (47, .one (.dat .bool (!y66))), (46, .one (.dat .bool (!y66))), (45, .one (.dat .bool y66)), (44, .one (.all 5)), (43, .one (.all 11)), (1, .one (.dat (.sl (.int .i64)) a1)), (2, .one (.ptr 0 0)), (6, .one (.all 5)), (7, .one (.dat .bool y9.2)), (8, .one (.ptr 9 0)), (9, .one (.all 10)), (10, .one (.all 11)), (11, .one (.dat .bool y15.2))], [(11, .seq (.flt .f32) y15.1), (10, .seq (.int .i64) y13), (9, .box [.dat (.int .i64) y11.1, .dat (.int .i64) y11.2.1, .all 6, .all 7, .all 8]), (9, .box [.dat (.int .i64) (0 : Int), .dat (.int .i64) (0 : Int), .nilS, .nilS, .nilS]), (6, .seq (.flt .f32) y11.2.2.1), (7, .seq (.flt .f32) y11.2.2.2.1), (8, .seq (.flt .f32) y11.2.2.2.2), (5, .seq (.flt .f32) y9.1), (4, .seq (.int .i64) y7), (1, .seq (.flt .f32) y5.2.2.1), (2, .seq (.flt .f32) y5.2.2.2.1), (3, .seq (.flt .f32) y5.2.2.2.2), (0, .box [.dat (.int .i64) a0.1, .dat (.int .i64) a0.2.1, .dat (.sl (.flt .f32)) a0.2.2.1, .dat (.sl (.flt .f32)) a0.2.2.2.1, .dat (.sl (.flt .f32)) a0.2.2.2.2])], 12⟩) hP hN (by kernel_rfl) (allCons (f15_ok hc67) (allCons hb68 (allCons hb68 (allCons hb68 (allCons hb68 allNil))))) (qThen ?_)
          exact (Le.cv (s := ⟨[(0, 0), (5, 1), (9, 2), (10, 3), (11, 4), (6, 5), (7, 6), (8, 7)], [], [], false⟩) (own := []) (ps := [a1 = a1, y9.2 = y9.2, y15.2 = y15.2, (y15.2 != y9.2) = (y15.2 != y9.2), a0.1 = a0.1, a0.2.1 = a0.2.1, a0.2.2.1 = a0.2.2.1, a0.2.2.2.1 = a0.2.2.2.1, a0.2.2.2.2 = a0.2.2.2.2, y9.1 = y9.1, y11.1 = y11.1, y11.2.1 = y11.2.1, y13 = y13, y15.1 = y15.1, y11.2.2.1 = y11.2.2.1, y11.2.2.2.1 = y11.2.2.2.1, y11.2.2.2.2 = y11.2.2.2.2]) (st' := ⟨[(1, .one (.dat (.sl (.int .i64)) a1)), (2, .one (.ptr 0 0)), (6, .one (.all 1)), (7, .one (.dat .bool y9.2)), (8, .one (.ptr 2 0)), (9, .one (.all 3)), (10, .one (.all 4)), (11, .one (.dat .bool y15.2)), (51, .one (.dat .bool (y15.2 != y9.2)))], [(0, .box [.dat (.int .i64) a0.1, .dat (.int .i64) a0.2.1, .dat (.sl (.flt .f32)) a0.2.2.1, .dat (.sl (.flt .f32)) a0.2.2.2.1, .dat (.sl (.flt .f32)) a0.2.2.2.2]), (1, .seq (.flt .f32) y9.1), (2, .box [.dat (.int .i64) y11.1, .dat (.int .i64) y11.2.1, .all 5, .all 6, .all 7]), (3, .seq (.int .i64) y13), (4, .seq (.flt .f32) y15.1), (5, .seq (.flt .f32) y11.2.2.1), (6, .seq (.flt .f32) y11.2.2.2.1), (7, .seq (.flt .f32) y11.2.2.2.2)], 8⟩) hO (fun h => by cases h) (by kernel_rfl) ⟨rfl, rfl, rfl, rfl, rfl, rfl, rfl, rfl, rfl, rfl, rfl, rfl, rfl, rfl, rfl, rfl, rfl, trivial⟩).ht (cont (y15.2 != y9.2) (of_some hT19))

end Go.Proofs
