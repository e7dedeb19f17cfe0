import Derived.Test.YthilbincoogfkaaLikesSharedGenA
import Derived.Test.YthilbincoogfkaaProg
set_option linter.unusedVariables false
set_option linter.unusedSimpArgs false
set_option linter.unusedSectionVars false
/-
  Functions as plain functions, and their contracts. Printed by a program.
-/
namespace Go.Proofs
open Go.Ide

noncomputable def impl_naturalLog_B1 (q7 : Nat) (s9 : Nat × Nat) : Option ((Nat × Nat) ⊕ (Nat)) :=
  bif (fge .f64 s9.2 (4607182418800017408 : Nat)) then
    some (.inl ((fop .add .f64 (fop .quo .f64 (4607182418800017408 : Nat) s9.2) (fop .mul .f64 (fop .mul .f64 q7 q7) s9.1)), (fop .sub .f64 s9.2 (4611686018427387904 : Nat))))
  else
    some (.inr s9.1)

noncomputable def impl_naturalLog_B2  (s4 : Nat × Nat) : Option ((Nat × Nat) ⊕ ((Nat × Nat))) :=
  bif (flt .f64 s4.1 (4604930618986332160 : Nat)) then
    some (.inl ((fop .mul .f64 s4.1 (4611686018427387904 : Nat)), (fop .sub .f64 s4.2 (4607182418800017408 : Nat))))
  else
    some (.inr (s4.1, s4.2))

noncomputable def impl_naturalLog_B3  (s1 : Nat × Nat) : Option ((Nat × Nat) ⊕ ((Nat × Nat))) :=
  bif (fge .f64 s1.1 (4609434218613702656 : Nat)) then
    some (.inl ((fop .quo .f64 s1.1 (4611686018427387904 : Nat)), (fop .add .f64 s1.2 (4607182418800017408 : Nat))))
  else
    some (.inr (s1.1, s1.2))

noncomputable def impl_naturalLog (a0 : Nat) : Option (Nat) :=
  (rounds (impl_naturalLog_B3) (a0, (0 : Nat))).bind fun r3 =>
  (rounds (impl_naturalLog_B2) (r3.1, r3.2)).bind fun r6 =>
  (some (fop .quo .f64 (fop .sub .f64 r6.1 (4607182418800017408 : Nat)) (fop .add .f64 r6.1 (4607182418800017408 : Nat)))).bind fun q7 =>
  (rounds (impl_naturalLog_B1 q7) ((0 : Nat), (4627730092099895296 : Nat))).bind fun r11 =>
  (some (fop .add .f64 (fop .mul .f64 (4611686018427387904 : Nat) (fop .mul .f64 q7 r11)) (fop .mul .f64 r6.2 (4604418534313441775 : Nat)))).bind fun q12 =>
  some q12

theorem f136_ok {a0 : Nat} {r : Nat} (hr : impl_naturalLog a0 = some r) : CallOK Try.prog 136 [.imm (.flt .f64) a0] [⟨false, (.flt .f64), r⟩] [] := by
  unfold impl_naturalLog at hr
  refine CallOK.of_body (ts := [(false, (.flt .f64))]) Try.func136 rfl (by kernel_rfl) (Nat.le_of_ble_eq_true (by kernel_rfl)) fun cx hP hN hO hF => ?_
  have hO : cx.own.map Prod.fst = [] := hO
  have hX := CxIs.mk hP hN hO
  have hF := hF rfl
  show HT cx ⟨[(0, .one (.dat (.flt .f64) a0))], [], 0⟩ _ _
  refine HT.rg2 [oH] ⟨[(0, .one (.dat (.flt .f64) a0))], [], 0⟩ hX (by kernel_rfl) allNil ?_
  refine HT.rg2 [oH] ⟨[(0, .one (.dat (.flt .f64) a0)), (3, .one (.dat (.flt .f64) (0 : Nat)))], [], 0⟩ hX (by kernel_rfl) allNil ?_
  refine HT.seq ?_
  refine HT.block ?_
  obtain ⟨r2, hL28, hr⟩ := of_bind hr
  refine (Le.cv (s := ⟨[], [], [], false⟩) (own := []) (ps := [a0 = a0, (0 : Nat) = (0 : Nat)]) (st' := ⟨[(0, .one (.dat (.flt .f64) a0)), (3, .one (.dat (.flt .f64) (0 : Nat)))], [], 0⟩) hO (fun h => by cases h) (by kernel_rfl) ⟨rfl, rfl, trivial⟩).ht ?_
  refine HT.loopE (s := (a0, (0 : Nat))) (fun (s1 : Nat × Nat) => ⟨[(0, .one (.dat (.flt .f64) s1.1)), (3, .one (.dat (.flt .f64) s1.2))], [], 0⟩) (fun (r3 : (Nat × Nat)) => (.exit 0, ⟨[(0, .one (.dat (.flt .f64) r3.1)), (3, .one (.dat (.flt .f64) r3.2))], [], 0⟩)) hL28 ?_ (fun s1 x24 hx25 hk26 => ?_)
  · refine (qBlockX (qThen ?_))
    refine HT.seq ?_
    refine HT.block ?_
    obtain ⟨r5, hL23, hr⟩ := of_bind hr
    refine (Le.cv (s := ⟨[], [], [], false⟩) (own := []) (ps := [r2.1 = r2.1, r2.2 = r2.2]) (st' := ⟨[(0, .one (.dat (.flt .f64) r2.1)), (3, .one (.dat (.flt .f64) r2.2))], [], 0⟩) hO (fun h => by cases h) (by kernel_rfl) ⟨rfl, rfl, trivial⟩).ht ?_
    refine HT.loopE (s := (r2.1, r2.2)) (fun (s4 : Nat × Nat) => ⟨[(0, .one (.dat (.flt .f64) s4.1)), (3, .one (.dat (.flt .f64) s4.2))], [], 0⟩) (fun (r6 : (Nat × Nat)) => (.exit 2, ⟨[(0, .one (.dat (.flt .f64) r6.1)), (3, .one (.dat (.flt .f64) r6.2))], [], 0⟩)) hL23 ?_ (fun s4 x19 hx20 hk21 => ?_)
    · refine (qBlockX (qThen ?_))
      refine HT.rg2 (oHs 6) ⟨[(3, .one (.dat (.flt .f64) r5.2)), (4, .one (.dat (.flt .f64) (fop .quo .f64 (fop .sub .f64 r5.1 (4607182418800017408 : Nat)) (fop .add .f64 r5.1 (4607182418800017408 : Nat)))))], [], 0⟩ hX (by kernel_rfl) allNil ?_
      obtain ⟨q7, hq8, hr⟩ := of_bind hr
      have hq8 := of_some2 hq8
      refine (Le.cv (s := ⟨[], [], [], false⟩) (own := []) (ps := [r5.2 = r5.2, q7 = (fop .quo .f64 (fop .sub .f64 r5.1 (4607182418800017408 : Nat)) (fop .add .f64 r5.1 (4607182418800017408 : Nat)))]) (st' := ⟨[(3, .one (.dat (.flt .f64) r5.2)), (4, .one (.dat (.flt .f64) q7))], [], 0⟩) hO (fun h => by cases h) (by kernel_rfl) ⟨rfl, hq8, trivial⟩).ht ?_
      refine HT.rg2 (oHs 4) ⟨[(3, .one (.dat (.flt .f64) r5.2)), (4, .one (.dat (.flt .f64) q7)), (5, .one (.dat (.flt .f64) (fop .mul .f64 q7 q7)))], [], 0⟩ hX (by kernel_rfl) allNil ?_
      refine HT.rg2 [oH] ⟨[(3, .one (.dat (.flt .f64) r5.2)), (4, .one (.dat (.flt .f64) q7)), (5, .one (.dat (.flt .f64) (fop .mul .f64 q7 q7))), (6, .one (.dat (.flt .f64) (0 : Nat)))], [], 0⟩ hX (by kernel_rfl) allNil ?_
      refine HT.seq ?_
      refine HT.rg2 [oH] ⟨[(3, .one (.dat (.flt .f64) r5.2)), (4, .one (.dat (.flt .f64) q7)), (5, .one (.dat (.flt .f64) (fop .mul .f64 q7 q7))), (6, .one (.dat (.flt .f64) (0 : Nat))), (7, .one (.dat (.flt .f64) (4627730092099895296 : Nat)))], [], 0⟩ hX (by kernel_rfl) allNil ?_
      refine HT.block ?_
      obtain ⟨r10, hL18, hr⟩ := of_bind hr
      refine (Le.cv (s := ⟨[], [], [], false⟩) (own := []) (ps := [r5.2 = r5.2, q7 = q7, (fop .mul .f64 q7 q7) = (fop .mul .f64 q7 q7), (0 : Nat) = (0 : Nat), (4627730092099895296 : Nat) = (4627730092099895296 : Nat)]) (st' := ⟨[(3, .one (.dat (.flt .f64) r5.2)), (4, .one (.dat (.flt .f64) q7)), (5, .one (.dat (.flt .f64) (fop .mul .f64 q7 q7))), (6, .one (.dat (.flt .f64) (0 : Nat))), (7, .one (.dat (.flt .f64) (4627730092099895296 : Nat)))], [], 0⟩) hO (fun h => by cases h) (by kernel_rfl) ⟨rfl, rfl, rfl, rfl, rfl, trivial⟩).ht ?_
      refine HT.loopE (s := ((0 : Nat), (4627730092099895296 : Nat))) (fun (s9 : Nat × Nat) => ⟨[(3, .one (.dat (.flt .f64) r5.2)), (4, .one (.dat (.flt .f64) q7)), (5, .one (.dat (.flt .f64) (fop .mul .f64 q7 q7))), (6, .one (.dat (.flt .f64) s9.1)), (7, .one (.dat (.flt .f64) s9.2))], [], 0⟩) (fun (r11 : Nat) => (.exit 4, ⟨[(3, .one (.dat (.flt .f64) r5.2)), (4, .one (.dat (.flt .f64) q7)), (6, .one (.dat (.flt .f64) r11))], [], 0⟩)) hL18 ?_ (fun s9 x14 hx15 hk16 => ?_)
      · refine (qBlockX (qThen ?_))
        refine HT.rg2 (oHs 8) ⟨[(2, .one (.dat (.flt .f64) (fop .add .f64 (fop .mul .f64 (4611686018427387904 : Nat) (fop .mul .f64 q7 r10)) (fop .mul .f64 r5.2 (4604418534313441775 : Nat)))))], [], 0⟩ hX (by kernel_rfl) allNil ?_
        obtain ⟨q12, hq13, hr⟩ := of_bind hr
        have hq13 := of_some2 hq13
        refine (Le.cv (s := ⟨[], [], [], false⟩) (own := []) (ps := [q12 = (fop .add .f64 (fop .mul .f64 (4611686018427387904 : Nat) (fop .mul .f64 q7 r10)) (fop .mul .f64 r5.2 (4604418534313441775 : Nat)))]) (st' := ⟨[(2, .one (.dat (.flt .f64) q12))], [], 0⟩) hO (fun h => by cases h) (by kernel_rfl) ⟨hq13, trivial⟩).ht ?_
        have hr := of_some hr
        subst hr
        exact HT.ret ⟨[.one (.dat (.flt .f64) q12)], [], [], by kernel_rfl, by kernel_rfl, rfl, by kernel_rfl, by kernel_rfl, trivial⟩
      · refine HT.seq ?_
        refine HT.rg2 (oHs 2) ⟨[(3, .one (.dat (.flt .f64) r5.2)), (4, .one (.dat (.flt .f64) q7)), (5, .one (.dat (.flt .f64) (fop .mul .f64 q7 q7))), (6, .one (.dat (.flt .f64) s9.1)), (7, .one (.dat (.flt .f64) s9.2)), (29, bV (fge .f64 s9.2 (4607182418800017408 : Nat)))], [], 0⟩ hX (by kernel_rfl) allNil ?_
        rcases of_bif hx15 with ⟨hb17, hx15⟩ | ⟨hb17, hx15⟩
        · refine HT.cond1 rfl hb17 ?_
          refine HT.skip (qThen ?_)
          refine HT.seq ?_
          refine HT.block ?_
          refine HT.rgL (oHs 7) ⟨[(3, .one (.dat (.flt .f64) r5.2)), (4, .one (.dat (.flt .f64) q7)), (5, .one (.dat (.flt .f64) (fop .mul .f64 q7 q7))), (6, .one (.dat (.flt .f64) (fop .add .f64 (fop .quo .f64 (4607182418800017408 : Nat) s9.2) (fop .mul .f64 (fop .mul .f64 q7 q7) s9.1)))), (7, .one (.dat (.flt .f64) s9.2))], [], 0⟩ hX (by kernel_rfl) allNil (qBlock (qThen ?_))
          have hx15 := of_some hx15
          subst hx15
          refine HT.rgL (oHs 3) ⟨[(3, .one (.dat (.flt .f64) r5.2)), (4, .one (.dat (.flt .f64) q7)), (5, .one (.dat (.flt .f64) (fop .mul .f64 q7 q7))), (6, .one (.dat (.flt .f64) (fop .add .f64 (fop .quo .f64 (4607182418800017408 : Nat) s9.2) (fop .mul .f64 (fop .mul .f64 q7 q7) s9.1)))), (7, .one (.dat (.flt .f64) (fop .sub .f64 s9.2 (4611686018427387904 : Nat))))], [], 0⟩ hX (by kernel_rfl) allNil (qLoopN ⟨((fop .add .f64 (fop .quo .f64 (4607182418800017408 : Nat) s9.2) (fop .mul .f64 (fop .mul .f64 q7 q7) s9.1)), (fop .sub .f64 s9.2 (4611686018427387904 : Nat))), rfl, Le.cv (s := ⟨[], [], [], false⟩) (own := []) (ps := [r5.2 = r5.2, q7 = q7, (fop .mul .f64 q7 q7) = (fop .mul .f64 q7 q7), (fop .add .f64 (fop .quo .f64 (4607182418800017408 : Nat) s9.2) (fop .mul .f64 (fop .mul .f64 q7 q7) s9.1)) = (fop .add .f64 (fop .quo .f64 (4607182418800017408 : Nat) s9.2) (fop .mul .f64 (fop .mul .f64 q7 q7) s9.1)), (fop .sub .f64 s9.2 (4611686018427387904 : Nat)) = (fop .sub .f64 s9.2 (4611686018427387904 : Nat))]) (st' := ⟨[(3, .one (.dat (.flt .f64) r5.2)), (4, .one (.dat (.flt .f64) q7)), (5, .one (.dat (.flt .f64) (fop .mul .f64 q7 q7))), (6, .one (.dat (.flt .f64) (fop .add .f64 (fop .quo .f64 (4607182418800017408 : Nat) s9.2) (fop .mul .f64 (fop .mul .f64 q7 q7) s9.1)))), (7, .one (.dat (.flt .f64) (fop .sub .f64 s9.2 (4611686018427387904 : Nat))))], [], 0⟩) hO (fun h => by cases h) (by kernel_rfl) ⟨rfl, rfl, rfl, rfl, rfl, trivial⟩⟩)
        · refine HT.cond0 rfl hb17 ?_
          have hx15 := of_some hx15
          subst hx15
          refine (Le.cv (s := ⟨[], [], [], false⟩) (own := []) (ps := [r5.2 = r5.2, q7 = q7, s9.1 = s9.1]) (st' := ⟨[(3, .one (.dat (.flt .f64) r5.2)), (4, .one (.dat (.flt .f64) q7)), (6, .one (.dat (.flt .f64) s9.1))], [], 0⟩) hO (fun h => by cases h) (by kernel_rfl) ⟨rfl, rfl, rfl, trivial⟩).ht ?_
          exact HT.exit (qThenE (qLoopE (hk16 s9.1 rfl)))
    · refine HT.seq ?_
      refine HT.rg2 (oHs 2) ⟨[(0, .one (.dat (.flt .f64) s4.1)), (3, .one (.dat (.flt .f64) s4.2)), (15, bV (flt .f64 s4.1 (4604930618986332160 : Nat)))], [], 0⟩ hX (by kernel_rfl) allNil ?_
      rcases of_bif hx20 with ⟨hb22, hx20⟩ | ⟨hb22, hx20⟩
      · refine HT.cond1 rfl hb22 ?_
        refine HT.skip (qThen ?_)
        refine HT.block ?_
        refine HT.rg2 (oHs 3) ⟨[(0, .one (.dat (.flt .f64) (fop .mul .f64 s4.1 (4611686018427387904 : Nat)))), (3, .one (.dat (.flt .f64) s4.2))], [], 0⟩ hX (by kernel_rfl) allNil ?_
        have hx20 := of_some hx20
        subst hx20
        refine HT.rgL (oHs 3) ⟨[(0, .one (.dat (.flt .f64) (fop .mul .f64 s4.1 (4611686018427387904 : Nat)))), (3, .one (.dat (.flt .f64) (fop .sub .f64 s4.2 (4607182418800017408 : Nat))))], [], 0⟩ hX (by kernel_rfl) allNil (qBlock (qLoopN ⟨((fop .mul .f64 s4.1 (4611686018427387904 : Nat)), (fop .sub .f64 s4.2 (4607182418800017408 : Nat))), rfl, Le.cv (s := ⟨[], [], [], false⟩) (own := []) (ps := [(fop .mul .f64 s4.1 (4611686018427387904 : Nat)) = (fop .mul .f64 s4.1 (4611686018427387904 : Nat)), (fop .sub .f64 s4.2 (4607182418800017408 : Nat)) = (fop .sub .f64 s4.2 (4607182418800017408 : Nat))]) (st' := ⟨[(0, .one (.dat (.flt .f64) (fop .mul .f64 s4.1 (4611686018427387904 : Nat)))), (3, .one (.dat (.flt .f64) (fop .sub .f64 s4.2 (4607182418800017408 : Nat))))], [], 0⟩) hO (fun h => by cases h) (by kernel_rfl) ⟨rfl, rfl, trivial⟩⟩))
      · refine HT.cond0 rfl hb22 ?_
        have hx20 := of_some hx20
        subst hx20
        refine (Le.cv (s := ⟨[], [], [], false⟩) (own := []) (ps := [s4.1 = s4.1, s4.2 = s4.2]) (st' := ⟨[(0, .one (.dat (.flt .f64) s4.1)), (3, .one (.dat (.flt .f64) s4.2))], [], 0⟩) hO (fun h => by cases h) (by kernel_rfl) ⟨rfl, rfl, trivial⟩).ht ?_
        exact HT.exit (qThenE (qLoopE (hk21 (s4.1, s4.2) rfl)))
  · refine HT.seq ?_
    refine HT.rg2 (oHs 2) ⟨[(0, .one (.dat (.flt .f64) s1.1)), (3, .one (.dat (.flt .f64) s1.2)), (9, bV (fge .f64 s1.1 (4609434218613702656 : Nat)))], [], 0⟩ hX (by kernel_rfl) allNil ?_
    rcases of_bif hx25 with ⟨hb27, hx25⟩ | ⟨hb27, hx25⟩
    · refine HT.cond1 rfl hb27 ?_
      refine HT.skip (qThen ?_)
      refine HT.block ?_
      refine HT.rg2 (oHs 3) ⟨[(0, .one (.dat (.flt .f64) (fop .quo .f64 s1.1 (4611686018427387904 : Nat)))), (3, .one (.dat (.flt .f64) s1.2))], [], 0⟩ hX (by kernel_rfl) allNil ?_
      have hx25 := of_some hx25
      subst hx25
      refine HT.rgL (oHs 3) ⟨[(0, .one (.dat (.flt .f64) (fop .quo .f64 s1.1 (4611686018427387904 : Nat)))), (3, .one (.dat (.flt .f64) (fop .add .f64 s1.2 (4607182418800017408 : Nat))))], [], 0⟩ hX (by kernel_rfl) allNil (qBlock (qLoopN ⟨((fop .quo .f64 s1.1 (4611686018427387904 : Nat)), (fop .add .f64 s1.2 (4607182418800017408 : Nat))), rfl, Le.cv (s := ⟨[], [], [], false⟩) (own := []) (ps := [(fop .quo .f64 s1.1 (4611686018427387904 : Nat)) = (fop .quo .f64 s1.1 (4611686018427387904 : Nat)), (fop .add .f64 s1.2 (4607182418800017408 : Nat)) = (fop .add .f64 s1.2 (4607182418800017408 : Nat))]) (st' := ⟨[(0, .one (.dat (.flt .f64) (fop .quo .f64 s1.1 (4611686018427387904 : Nat)))), (3, .one (.dat (.flt .f64) (fop .add .f64 s1.2 (4607182418800017408 : Nat))))], [], 0⟩) hO (fun h => by cases h) (by kernel_rfl) ⟨rfl, rfl, trivial⟩⟩))
    · refine HT.cond0 rfl hb27 ?_
      have hx25 := of_some hx25
      subst hx25
      refine (Le.cv (s := ⟨[], [], [], false⟩) (own := []) (ps := [s1.1 = s1.1, s1.2 = s1.2]) (st' := ⟨[(0, .one (.dat (.flt .f64) s1.1)), (3, .one (.dat (.flt .f64) s1.2))], [], 0⟩) hO (fun h => by cases h) (by kernel_rfl) ⟨rfl, rfl, trivial⟩).ht ?_
      exact HT.exit (qThenE (qLoopE (hk26 (s1.1, s1.2) rfl)))

noncomputable def impl_LogNumber (a0 : Nat) : Option (Nat) :=
  bif (feq .f32 a0 (0 : Nat)) then
    (math_Inf (-1 : Int)).bind fun y2 =>
    guardP (fconvOK .f64 .f32 y2 = true) (
      some (fconv .f64 .f32 y2))
  else
    (show Option (Bool) from
      bif (flt .f32 a0 (0 : Nat)) then
        some true
      else
        some (!(feq .f32 a0 a0))).bind fun v5 =>
    bif v5 then
      (math_NaN).bind fun y9 =>
      guardP (fconvOK .f64 .f32 y9 = true) (
        some (fconv .f64 .f32 y9))
    else
      (impl_IsFinite a0).bind fun y12 =>
      bif (!y12) then
        some a0
      else
        (impl_naturalLog (fconv .f32 .f64 a0)).bind fun y15 =>
        guardP (fconvOK .f64 .f32 y15 = true) (
          some (fconv .f64 .f32 y15))

theorem f117_ok {a0 : Nat} {r : Nat} (hr : impl_LogNumber a0 = some r) : CallOK Try.prog 117 [.imm tF a0] [⟨false, tF, r⟩] [] := by
  unfold impl_LogNumber at hr
  refine CallOK.of_body (ts := [(false, tF)]) Try.func117 rfl (by kernel_rfl) (Nat.le_of_ble_eq_true (by kernel_rfl)) fun cx hP hN hO hF => ?_
  have hO : cx.own.map Prod.fst = [] := hO
  have hX := CxIs.mk hP hN hO
  have hF := hF rfl
  show HT cx ⟨[(0, fV a0)], [], 0⟩ _ _
  refine HT.rg2 [oH] ⟨[(0, fV a0)], [], 0⟩ hX (by kernel_rfl) allNil ?_
  refine HT.seq ?_
  refine HT.block ?_
  refine HT.rg2 (oHs 3) ⟨[(0, fV a0), (3, bV (feq .f32 a0 (0 : Nat)))], [], 0⟩ hX (by kernel_rfl) allNil ?_
  rcases of_bif hr with ⟨hb1, hr⟩ | ⟨hb1, hr⟩
  · refine HT.cond1 rfl hb1 ?_
    obtain ⟨y2, hc3, hr⟩ := of_bind hr
    obtain ⟨hg4, hr⟩ := of_guard hr
    refine HT.rg2 [⟨none, .call [.imm tI] [⟨false, (.flt .f64), y2⟩] []⟩, oH, oH] ⟨[(2, fV (fconv .f64 .f32 y2))], [], 0⟩ hX (by kernel_rfl) (allCons (f134_ok hc3) (allCons hg4 allNil)) ?_
    have hr := of_some hr
    subst hr
    exact HT.ret (qBlockR (qThenR ⟨[fV (fconv .f64 .f32 y2)], [], [], by kernel_rfl, by kernel_rfl, rfl, by kernel_rfl, by kernel_rfl, trivial⟩))
  · refine HT.cond0 rfl hb1 ?_
    obtain ⟨v5', hT7, hr⟩ := of_bind hr
    refine HT.join (fun (v5 : Bool) => ⟨[(0, fV a0), (8, bV v5)], [], 0⟩) (fun v => v = v5') (fun v5 hv6 => ?_) (fun cont => ?_)
    · subst hv6
      rcases of_bif hr with ⟨hb8, hr⟩ | ⟨hb8, hr⟩
      · refine HT.cond1 rfl hb8 ?_
        obtain ⟨y9, hc10, hr⟩ := of_bind hr
        obtain ⟨hg11, hr⟩ := of_guard hr
        refine HT.rg2 [⟨none, .call [] [⟨false, (.flt .f64), y9⟩] []⟩, oH, oH] ⟨[(2, fV (fconv .f64 .f32 y9))], [], 0⟩ hX (by kernel_rfl) (allCons (f135_ok hc10) (allCons hg11 allNil)) ?_
        have hr := of_some hr
        subst hr
        exact HT.ret (qBlockR (qThenR ⟨[fV (fconv .f64 .f32 y9)], [], [], by kernel_rfl, by kernel_rfl, rfl, by kernel_rfl, by kernel_rfl, trivial⟩))
      · refine HT.cond0 rfl hb8 ?_
        obtain ⟨y12, hc13, hr⟩ := of_bind hr
        refine HT.rg2 [oH, ⟨none, .call [.imm tF] [⟨false, .bool, y12⟩] []⟩, oH, oH] ⟨[(0, fV a0), (18, bV (!y12))], [], 0⟩ hX (by kernel_rfl) (allCons (f106_ok hc13) allNil) ?_
        rcases of_bif hr with ⟨hb14, hr⟩ | ⟨hb14, hr⟩
        · refine HT.cond1 rfl hb14 ?_
          refine HT.rg2 (oHs 2) ⟨[(2, fV a0)], [], 0⟩ hX (by kernel_rfl) allNil ?_
          have hr := of_some hr
          subst hr
          exact HT.ret (qBlockR (qThenR ⟨[fV a0], [], [], by kernel_rfl, by kernel_rfl, rfl, by kernel_rfl, by kernel_rfl, trivial⟩))
        · refine HT.cond0 rfl hb14 ?_
          refine HT.skip (qBlock (qThen ?_))
          obtain ⟨y15, hc16, hr⟩ := of_bind hr
          obtain ⟨hg17, hr⟩ := of_guard hr
          refine HT.rg2 [oH, oH, ⟨none, .call [.imm (.flt .f64)] [⟨false, (.flt .f64), y15⟩] []⟩, oH, oH] ⟨[(2, fV (fconv .f64 .f32 y15))], [], 0⟩ hX (by kernel_rfl) (allCons (show fconvOK .f32 .f64 a0 = true from (fconv_up _)) (allCons (f136_ok hc16) (allCons hg17 allNil))) ?_
          have hr := of_some hr
          subst hr
          exact HT.ret ⟨[fV (fconv .f64 .f32 y15)], [], [], by kernel_rfl, by kernel_rfl, rfl, by kernel_rfl, by kernel_rfl, trivial⟩
    · rcases of_bif hT7 with ⟨hb18, hT7⟩ | ⟨hb18, hT7⟩
      · refine HT.rgL [oH, oH, oH, ⟨some true, .no⟩, ⟨some true, .no⟩, ⟨some true, .no⟩, ⟨none, .tv true⟩, oH] ⟨[(0, fV a0), (8, bV true)], [], 0⟩ hX (by kernel_rfl) (allCons hb18 (allCons hb18 (allCons hb18 (allCons hb18 allNil)))) (qThen ?_)
        exact (Le.cv (s := ⟨[], [], [], false⟩) (own := []) (ps := [a0 = a0, true = true]) (st' := ⟨[(0, fV a0), (8, bV true)], [], 0⟩) hO (fun h => by cases h) (by kernel_rfl) ⟨rfl, rfl, trivial⟩).ht (cont true (of_some hT7))
      · refine HT.rgL [oH, oH, oH, ⟨some false, .no⟩, ⟨some false, .no⟩, ⟨some false, .no⟩, ⟨none, .tv false⟩, oH] ⟨[(0, fV a0), (8, bV (!(feq .f32 a0 a0)))], [], 0⟩ hX (by kernel_rfl) (allCons hb18 (allCons hb18 (allCons hb18 (allCons hb18 allNil)))) (qThen ?_)
        exact (Le.cv (s := ⟨[], [], [], false⟩) (own := []) (ps := [a0 = a0, (!(feq .f32 a0 a0)) = (!(feq .f32 a0 a0))]) (st' := ⟨[(0, fV a0), (8, bV (!(feq .f32 a0 a0)))], [], 0⟩) hO (fun h => by cases h) (by kernel_rfl) ⟨rfl, rfl, trivial⟩).ht (cont (!(feq .f32 a0 a0)) (of_some hT7))

noncomputable def impl_LogChanceOf_B1 (r19 : Nat) (y21 : List Nat) (s23 : Int × List Nat) : Option ((Int × List Nat) ⊕ (List Nat)) :=
  bif (decide (s23.1 < (lenI y21))) then
    guardP ((0 : Int) ≤ s23.1 ∧ s23.1 < lenI s23.2) (
      some (.inl ((wadd .i64 s23.1 (1 : Int)), (List.set s23.2 (Int.toNat s23.1) (fop .quo .f32 (List.getD s23.2 (Int.toNat s23.1) (0 : Nat)) r19)))))
  else
    some (.inr s23.2)

noncomputable def impl_LogChanceOf_B2 (a0 : Int × Int × List Nat × List Nat × List Nat) (a1 : List Int) (s6 : Nat × Int × List Nat) (s17 : Nat × Int) : Option ((Nat × Int) ⊕ (Nat)) :=
  bif (decide (s17.2 < (lenI s6.2.2))) then
    guardP ((0 : Int) ≤ s17.2 ∧ s17.2 < lenI s6.2.2) (
      (impl_Model_show (a0.1, a0.2.1, a0.2.2.1, a0.2.2.2.1, a0.2.2.2.2) s17.2 (List.getD a1 (Int.toNat s6.2.1) (0 : Int))).bind fun y39 =>
      some (.inl ((fop .add .f32 s17.1 (fop .mul .f32 (List.getD s6.2.2 (Int.toNat s17.2) (0 : Nat)) y39)), (wadd .i64 s17.2 (1 : Int)))))
  else
    some (.inr s17.1)

noncomputable def impl_LogChanceOf_B3 (a0 : Int × Int × List Nat × List Nat × List Nat) (a1 : List Int) (s6 : Nat × Int × List Nat) : Option ((Nat × Int × List Nat) ⊕ (Nat ⊕ Unit)) :=
  bif (decide (s6.2.1 < (lenI a1))) then
    guardP ((0 : Int) ≤ s6.2.1 ∧ s6.2.1 < lenI a1) (
      (rounds (impl_LogChanceOf_B2 a0 a1 s6) ((0 : Nat), (0 : Int))).bind fun r19 =>
      bif (!(fgt .f32 r19 (0 : Nat))) then
        some (.inr (.inr ()))
      else
        (impl_Model_nextRow (a0.1, a0.2.1, a0.2.2.1, a0.2.2.2.1, a0.2.2.2.2) s6.2.2 (List.getD a1 (Int.toNat s6.2.1) (0 : Int))).bind fun y21 =>
        (rounds (impl_LogChanceOf_B1 r19 y21) ((0 : Int), y21)).bind fun r25 =>
        (impl_LogNumber r19).bind fun y26 =>
        some (.inl ((fop .add .f32 s6.1 y26), (wadd .i64 s6.2.1 (1 : Int)), r25)))
  else
    some (.inr (.inl s6.1))

noncomputable def impl_LogChanceOf (a0 : Int × Int × List Nat × List Nat × List Nat) (a1 : List Int) : Option (Nat × Bool) :=
  (impl_Model_has (a0.1, a0.2.1, a0.2.2.1, a0.2.2.2.1, a0.2.2.2.2) a1).bind fun y1 =>
  bif (!y1) then
    some ((0 : Nat), false)
  else
    (slices_Clone a0.2.2.1).bind fun y4 =>
    (rounds (impl_LogChanceOf_B3 a0 a1) ((0 : Nat), (0 : Int), y4)).bind fun r7 => match r7 with
      | .inl r8 =>
        (impl_finite r8).bind fun y9 =>
        some (y9.1, y9.2)
      | .inr r11 =>
        some ((0 : Nat), false)

theorem f95_ok {a0 : Int × Int × List Nat × List Nat × List Nat} {a1 : List Int} {r : Nat × Bool} (hr : impl_LogChanceOf a0 a1 = some r) : CallOK Try.prog 95 [.imm (.st (.pair tI (.pair tI (.pair tLF (.pair tLF tLF))))) a0, .imm tLI a1] [⟨false, tF, r.1⟩, ⟨false, .bool, r.2⟩] [] := by
  unfold impl_LogChanceOf at hr
  refine CallOK.of_body (ts := [(false, tF), (false, .bool)]) Try.func95 rfl (by kernel_rfl) (Nat.le_of_ble_eq_true (by kernel_rfl)) fun cx hP hN hO hF => ?_
  have hO : cx.own.map Prod.fst = [] := hO
  have hX := CxIs.mk hP hN hO
  have hF := hF rfl
  show HT cx ⟨[(0, .agg [iC a0.1, iC a0.2.1, lC a0.2.2.1, lC a0.2.2.2.1, lC a0.2.2.2.2]), (1, nV a1)], [], 0⟩ _ _
  refine HT.rg2 (oHs 3) ⟨[(1, nV a1), (2, pV 0 0)], [(0, .box [iC a0.1, iC a0.2.1, lC a0.2.2.1, lC a0.2.2.2.1, lC a0.2.2.2.2])], 1⟩ hX (by kernel_rfl) allNil ?_
  refine HT.seq ?_
  obtain ⟨y1, hc2, hr⟩ := of_bind hr
  refine HT.rg2 [oH, oH, ⟨none, .call [.imm (.st (.pair tI (.pair tI (.pair tLF (.pair tLF tLF))))), .imm tLI] [⟨false, .bool, y1⟩] []⟩, oH] ⟨[(1, nV a1), (2, pV 0 0), (17, bV (!y1))], [(0, .box [iC a0.1, iC a0.2.1, lC a0.2.2.1, lC a0.2.2.2.1, lC a0.2.2.2.2])], 1⟩ hX (by kernel_rfl) (allCons (f47_ok hc2) allNil) ?_
  rcases of_bif hr with ⟨hb3, hr⟩ | ⟨hb3, hr⟩
  · refine HT.cond1 rfl hb3 ?_
    refine HT.rg2 (oHs 2) ⟨[(4, fV (0 : Nat)), (5, bV false)], [], 1⟩ hX (by kernel_rfl) allNil ?_
    have hr := of_some hr
    subst hr
    exact HT.ret (qThenR ⟨[fV (0 : Nat), bV false], [], [], by kernel_rfl, by kernel_rfl, rfl, by kernel_rfl, by kernel_rfl, trivial⟩)
  · refine HT.cond0 rfl hb3 ?_
    refine HT.skip (qThen ?_)
    obtain ⟨y4, hc5, hr⟩ := of_bind hr
    refine HT.rg2 [oH, oH, ⟨none, .call [.imm tLF] [⟨true, tLF, y4⟩] []⟩, oH] ⟨[(1, nV a1), (2, pV 0 0), (6, aV 1)], [(1, .seq tF y4), (0, .box [iC a0.1, iC a0.2.1, lC a0.2.2.1, lC a0.2.2.2.1, lC a0.2.2.2.2])], 2⟩ hX (by kernel_rfl) (allCons (f66_ok hc5) allNil) ?_
    refine HT.rg2 [oH] ⟨[(1, nV a1), (2, pV 0 0), (6, aV 1), (7, fV (0 : Nat))], [(1, .seq tF y4), (0, .box [iC a0.1, iC a0.2.1, lC a0.2.2.1, lC a0.2.2.2.1, lC a0.2.2.2.2])], 2⟩ hX (by kernel_rfl) allNil ?_
    refine HT.seq ?_
    refine HT.rg2 (oHs 3) ⟨[(2, pV 0 0), (6, aV 1), (7, fV (0 : Nat)), (21, nV a1), (22, iV (lenI a1)), (23, iV (0 : Int))], [(1, .seq tF y4), (0, .box [iC a0.1, iC a0.2.1, lC a0.2.2.1, lC a0.2.2.2.1, lC a0.2.2.2.2])], 2⟩ hX (by kernel_rfl) allNil ?_
    refine HT.block ?_
    obtain ⟨r7, hL42, hr⟩ := of_bind hr
    refine (Le.cv (s := ⟨[(0, 0), (1, 1)], [], [], false⟩) (own := []) (ps := [(0 : Nat) = (0 : Nat), a1 = a1, (lenI a1) = (lenI a1), (0 : Int) = (0 : Int), a0.1 = a0.1, a0.2.1 = a0.2.1, a0.2.2.1 = a0.2.2.1, a0.2.2.2.1 = a0.2.2.2.1, a0.2.2.2.2 = a0.2.2.2.2, y4 = y4]) (st' := ⟨[(2, pV 0 0), (6, aV 1), (7, fV (0 : Nat)), (21, nV a1), (22, iV (lenI a1)), (23, iV (0 : Int))], [(0, .box [iC a0.1, iC a0.2.1, lC a0.2.2.1, lC a0.2.2.2.1, lC a0.2.2.2.2]), (1, .seq tF y4)], 2⟩) hO (fun h => by cases h) (by kernel_rfl) ⟨rfl, rfl, rfl, rfl, rfl, rfl, rfl, rfl, rfl, rfl, trivial⟩).ht ?_
    refine HT.loopE (s := ((0 : Nat), (0 : Int), y4)) (fun (s6 : Nat × Int × List Nat) => ⟨[(2, pV 0 0), (6, aV 1), (7, fV s6.1), (21, nV a1), (22, iV (lenI a1)), (23, iV s6.2.1)], [(0, .box [iC a0.1, iC a0.2.1, lC a0.2.2.1, lC a0.2.2.2.1, lC a0.2.2.2.2]), (1, .seq tF s6.2.2)], 2⟩) (fun (r7 : Nat ⊕ Unit) => match r7 with | .inl r8 => (.exit 0, ⟨[(7, fV r8)], [], 0⟩) | .inr r11 => (.ret, ⟨[(4, fV (0 : Nat)), (5, bV false)], [], 0⟩)) hL42 ?_ (fun s6 x12 hx13 hk14 => ?_)
    · rcases r7 with r8 | r11
      · refine (qBlockX (qThen ?_))
        obtain ⟨y9, hc10, hr⟩ := of_bind hr
        refine HT.rg2 [oH, ⟨none, .call [.imm tF] [⟨false, tF, y9.1⟩, ⟨false, .bool, y9.2⟩] []⟩, oH, oH, oH, oH] ⟨[(4, fV y9.1), (5, bV y9.2)], [], 0⟩ hX (by kernel_rfl) (allCons (f118_ok hc10) allNil) ?_
        have hr := of_some hr
        subst hr
        exact HT.ret ⟨[fV y9.1, bV y9.2], [], [], by kernel_rfl, by kernel_rfl, rfl, by kernel_rfl, by kernel_rfl, trivial⟩
      · have hr := of_some hr
        subst hr
        exact (qBlockR (qThenR ⟨[fV (0 : Nat), bV false], [], [], by kernel_rfl, by kernel_rfl, rfl, by kernel_rfl, by kernel_rfl, trivial⟩))
    · refine HT.rg2 [oH] ⟨[(2, pV 0 0), (6, aV 1), (7, fV s6.1), (21, nV a1), (22, iV (lenI a1)), (23, iV s6.2.1), (24, bV (decide (s6.2.1 < (lenI a1))))], [(0, .box [iC a0.1, iC a0.2.1, lC a0.2.2.1, lC a0.2.2.2.1, lC a0.2.2.2.2]), (1, .seq tF s6.2.2)], 2⟩ hX (by kernel_rfl) allNil ?_
      refine HT.seq ?_
      rcases of_bif hx13 with ⟨hb15, hx13⟩ | ⟨hb15, hx13⟩
      · refine HT.cond1 rfl hb15 ?_
        refine HT.skip (qThen ?_)
        refine HT.seq ?_
        refine HT.block ?_
        obtain ⟨hg16, hx13⟩ := of_guard hx13
        refine HT.rg2 (oHs 3) ⟨[(2, pV 0 0), (6, aV 1), (7, fV s6.1), (9, iV (List.getD a1 (Int.toNat s6.2.1) (0 : Int))), (21, nV a1), (22, iV (lenI a1)), (23, iV s6.2.1)], [(0, .box [iC a0.1, iC a0.2.1, lC a0.2.2.1, lC a0.2.2.2.1, lC a0.2.2.2.2]), (1, .seq tF s6.2.2)], 2⟩ hX (by kernel_rfl) (allCons hg16 allNil) ?_
        refine HT.rg2 [oH] ⟨[(2, pV 0 0), (6, aV 1), (7, fV s6.1), (9, iV (List.getD a1 (Int.toNat s6.2.1) (0 : Int))), (10, fV (0 : Nat)), (21, nV a1), (22, iV (lenI a1)), (23, iV s6.2.1)], [(0, .box [iC a0.1, iC a0.2.1, lC a0.2.2.1, lC a0.2.2.2.1, lC a0.2.2.2.2]), (1, .seq tF s6.2.2)], 2⟩ hX (by kernel_rfl) allNil ?_
        refine HT.seq ?_
        refine HT.rg2 (oHs 3) ⟨[(2, pV 0 0), (6, aV 1), (7, fV s6.1), (9, iV (List.getD a1 (Int.toNat s6.2.1) (0 : Int))), (10, fV (0 : Nat)), (21, nV a1), (22, iV (lenI a1)), (23, iV s6.2.1), (27, aV 1), (28, iV (lenI s6.2.2)), (29, iV (0 : Int))], [(0, .box [iC a0.1, iC a0.2.1, lC a0.2.2.1, lC a0.2.2.2.1, lC a0.2.2.2.2]), (1, .seq tF s6.2.2)], 2⟩ hX (by kernel_rfl) allNil ?_
        refine HT.block ?_
        obtain ⟨r18, hL41, hx13⟩ := of_bind hx13
        refine (Le.cv (s := ⟨[(0, 0), (1, 1)], [], [], false⟩) (own := []) (ps := [s6.1 = s6.1, (List.getD a1 (Int.toNat s6.2.1) (0 : Int)) = (List.getD a1 (Int.toNat s6.2.1) (0 : Int)), (0 : Nat) = (0 : Nat), a1 = a1, (lenI a1) = (lenI a1), s6.2.1 = s6.2.1, (lenI s6.2.2) = (lenI s6.2.2), (0 : Int) = (0 : Int), a0.1 = a0.1, a0.2.1 = a0.2.1, a0.2.2.1 = a0.2.2.1, a0.2.2.2.1 = a0.2.2.2.1, a0.2.2.2.2 = a0.2.2.2.2, s6.2.2 = s6.2.2]) (st' := ⟨[(2, pV 0 0), (6, aV 1), (7, fV s6.1), (9, iV (List.getD a1 (Int.toNat s6.2.1) (0 : Int))), (10, fV (0 : Nat)), (21, nV a1), (22, iV (lenI a1)), (23, iV s6.2.1), (27, aV 1), (28, iV (lenI s6.2.2)), (29, iV (0 : Int))], [(0, .box [iC a0.1, iC a0.2.1, lC a0.2.2.1, lC a0.2.2.2.1, lC a0.2.2.2.2]), (1, .seq tF s6.2.2)], 2⟩) hO (fun h => by cases h) (by kernel_rfl) ⟨rfl, rfl, rfl, rfl, rfl, rfl, rfl, rfl, rfl, rfl, rfl, rfl, rfl, rfl, trivial⟩).ht ?_
        refine HT.loopE (s := ((0 : Nat), (0 : Int))) (fun (s17 : Nat × Int) => ⟨[(2, pV 0 0), (6, aV 1), (7, fV s6.1), (9, iV (List.getD a1 (Int.toNat s6.2.1) (0 : Int))), (10, fV s17.1), (21, nV a1), (22, iV (lenI a1)), (23, iV s6.2.1), (27, aV 1), (28, iV (lenI s6.2.2)), (29, iV s17.2)], [(0, .box [iC a0.1, iC a0.2.1, lC a0.2.2.1, lC a0.2.2.2.1, lC a0.2.2.2.2]), (1, .seq tF s6.2.2)], 2⟩) (fun (r19 : Nat) => (.exit 2, ⟨[(2, pV 0 0), (6, aV 1), (7, fV s6.1), (9, iV (List.getD a1 (Int.toNat s6.2.1) (0 : Int))), (10, fV r19), (21, nV a1), (22, iV (lenI a1)), (23, iV s6.2.1)], [(0, .box [iC a0.1, iC a0.2.1, lC a0.2.2.1, lC a0.2.2.2.1, lC a0.2.2.2.2]), (1, .seq tF s6.2.2)], 2⟩)) hL41 ?_ (fun s17 x34 hx35 hk36 => ?_)
        · refine (qBlockX (qThen ?_))
          refine HT.seq ?_
          refine HT.rg2 (oHs 3) ⟨[(2, pV 0 0), (6, aV 1), (7, fV s6.1), (9, iV (List.getD a1 (Int.toNat s6.2.1) (0 : Int))), (10, fV r18), (21, nV a1), (22, iV (lenI a1)), (23, iV s6.2.1), (45, bV (!(fgt .f32 r18 (0 : Nat))))], [(0, .box [iC a0.1, iC a0.2.1, lC a0.2.2.1, lC a0.2.2.2.1, lC a0.2.2.2.2]), (1, .seq tF s6.2.2)], 2⟩ hX (by kernel_rfl) allNil ?_
          rcases of_bif hx13 with ⟨hb20, hx13⟩ | ⟨hb20, hx13⟩
          · refine HT.cond1 rfl hb20 ?_
            refine HT.rg2 (oHs 2) ⟨[(4, fV (0 : Nat)), (5, bV false)], [], 2⟩ hX (by kernel_rfl) allNil ?_
            have hx13 := of_some hx13
            subst hx13
            refine (Le.cv (s := ⟨[], [], [], false⟩) (own := []) (ps := [(0 : Nat) = (0 : Nat), false = false]) (st' := ⟨[(4, fV (0 : Nat)), (5, bV false)], [], 0⟩) hO (fun h => by cases h) (by kernel_rfl) ⟨rfl, rfl, trivial⟩).ht ?_
            exact HT.ret (qThenR (qBlockR (qThenR (qLoopR (hk14 (.inr ()) rfl)))))
          · refine HT.cond0 rfl hb20 ?_
            refine HT.skip (qThen ?_)
            obtain ⟨y21, hc22, hx13⟩ := of_bind hx13
            refine HT.rg2 [oH, oH, oH, ⟨none, .call [.imm (.st (.pair tI (.pair tI (.pair tLF (.pair tLF tLF))))), .imm tLF, .imm tI] [⟨true, tLF, y21⟩] []⟩, oH] ⟨[(2, pV 0 0), (6, aV 2), (7, fV s6.1), (10, fV r18), (21, nV a1), (22, iV (lenI a1)), (23, iV s6.2.1)], [(2, .seq tF y21), (0, .box [iC a0.1, iC a0.2.1, lC a0.2.2.1, lC a0.2.2.2.1, lC a0.2.2.2.2])], 3⟩ hX (by kernel_rfl) (allCons (f88_ok hc22) allNil) ?_
            refine HT.seq ?_
            refine HT.rg2 (oHs 3) ⟨[(2, pV 0 0), (6, aV 2), (7, fV s6.1), (10, fV r18), (21, nV a1), (22, iV (lenI a1)), (23, iV s6.2.1), (51, iV (lenI y21)), (52, iV (0 : Int))], [(2, .seq tF y21), (0, .box [iC a0.1, iC a0.2.1, lC a0.2.2.1, lC a0.2.2.2.1, lC a0.2.2.2.2])], 3⟩ hX (by kernel_rfl) allNil ?_
            refine HT.block ?_
            obtain ⟨r24, hL33, hx13⟩ := of_bind hx13
            refine (Le.cv (s := ⟨[(0, 0), (2, 1)], [], [], false⟩) (own := []) (ps := [s6.1 = s6.1, r18 = r18, a1 = a1, (lenI a1) = (lenI a1), s6.2.1 = s6.2.1, (lenI y21) = (lenI y21), (0 : Int) = (0 : Int), a0.1 = a0.1, a0.2.1 = a0.2.1, a0.2.2.1 = a0.2.2.1, a0.2.2.2.1 = a0.2.2.2.1, a0.2.2.2.2 = a0.2.2.2.2, y21 = y21]) (st' := ⟨[(2, pV 0 0), (6, aV 1), (7, fV s6.1), (10, fV r18), (21, nV a1), (22, iV (lenI a1)), (23, iV s6.2.1), (51, iV (lenI y21)), (52, iV (0 : Int))], [(0, .box [iC a0.1, iC a0.2.1, lC a0.2.2.1, lC a0.2.2.2.1, lC a0.2.2.2.2]), (1, .seq tF y21)], 2⟩) hO (fun h => by cases h) (by kernel_rfl) ⟨rfl, rfl, rfl, rfl, rfl, rfl, rfl, rfl, rfl, rfl, rfl, rfl, rfl, trivial⟩).ht ?_
            refine HT.loopE (s := ((0 : Int), y21)) (fun (s23 : Int × List Nat) => ⟨[(2, pV 0 0), (6, aV 1), (7, fV s6.1), (10, fV r18), (21, nV a1), (22, iV (lenI a1)), (23, iV s6.2.1), (51, iV (lenI y21)), (52, iV s23.1)], [(0, .box [iC a0.1, iC a0.2.1, lC a0.2.2.1, lC a0.2.2.2.1, lC a0.2.2.2.2]), (1, .seq tF s23.2)], 2⟩) (fun (r25 : List Nat) => (.exit 4, ⟨[(2, pV 0 0), (6, aV 1), (7, fV s6.1), (10, fV r18), (21, nV a1), (22, iV (lenI a1)), (23, iV s6.2.1)], [(0, .box [iC a0.1, iC a0.2.1, lC a0.2.2.1, lC a0.2.2.2.1, lC a0.2.2.2.2]), (1, .seq tF r25)], 2⟩)) hL33 ?_ (fun s23 x28 hx29 hk30 => ?_)
            · refine (qBlockX (qThen ?_))
              obtain ⟨y26, hc27, hx13⟩ := of_bind hx13
              refine HT.rgL [oH, oH, ⟨none, .call [.imm tF] [⟨false, tF, y26⟩] []⟩, oH, oH] ⟨[(2, pV 0 0), (6, aV 1), (7, fV (fop .add .f32 s6.1 y26)), (21, nV a1), (22, iV (lenI a1)), (23, iV s6.2.1)], [(0, .box [iC a0.1, iC a0.2.1, lC a0.2.2.1, lC a0.2.2.2.1, lC a0.2.2.2.2]), (1, .seq tF r24)], 2⟩ hX (by kernel_rfl) (allCons (f117_ok hc27) allNil) (qBlock (qThen ?_))
              have hx13 := of_some hx13
              subst hx13
              refine HT.rgL (oHs 2) ⟨[(2, pV 0 0), (6, aV 1), (7, fV (fop .add .f32 s6.1 y26)), (21, nV a1), (22, iV (lenI a1)), (23, iV (wadd .i64 s6.2.1 (1 : Int)))], [(0, .box [iC a0.1, iC a0.2.1, lC a0.2.2.1, lC a0.2.2.2.1, lC a0.2.2.2.2]), (1, .seq tF r24)], 2⟩ hX (by kernel_rfl) allNil (qLoopN ⟨((fop .add .f32 s6.1 y26), (wadd .i64 s6.2.1 (1 : Int)), r24), rfl, Le.cv (s := ⟨[(0, 0), (1, 1)], [], [], false⟩) (own := []) (ps := [(fop .add .f32 s6.1 y26) = (fop .add .f32 s6.1 y26), a1 = a1, (lenI a1) = (lenI a1), (wadd .i64 s6.2.1 (1 : Int)) = (wadd .i64 s6.2.1 (1 : Int)), a0.1 = a0.1, a0.2.1 = a0.2.1, a0.2.2.1 = a0.2.2.1, a0.2.2.2.1 = a0.2.2.2.1, a0.2.2.2.2 = a0.2.2.2.2, r24 = r24]) (st' := ⟨[(2, pV 0 0), (6, aV 1), (7, fV (fop .add .f32 s6.1 y26)), (21, nV a1), (22, iV (lenI a1)), (23, iV (wadd .i64 s6.2.1 (1 : Int)))], [(0, .box [iC a0.1, iC a0.2.1, lC a0.2.2.1, lC a0.2.2.2.1, lC a0.2.2.2.2]), (1, .seq tF r24)], 2⟩) hO (fun h => by cases h) (by kernel_rfl) ⟨rfl, rfl, rfl, rfl, rfl, rfl, rfl, rfl, rfl, rfl, trivial⟩⟩)
            · refine HT.rg2 [oH] ⟨[(2, pV 0 0), (6, aV 1), (7, fV s6.1), (10, fV r18), (21, nV a1), (22, iV (lenI a1)), (23, iV s6.2.1), (51, iV (lenI y21)), (52, iV s23.1), (53, bV (decide (s23.1 < (lenI y21))))], [(0, .box [iC a0.1, iC a0.2.1, lC a0.2.2.1, lC a0.2.2.2.1, lC a0.2.2.2.2]), (1, .seq tF s23.2)], 2⟩ hX (by kernel_rfl) allNil ?_
              refine HT.seq ?_
              rcases of_bif hx29 with ⟨hb31, hx29⟩ | ⟨hb31, hx29⟩
              · refine HT.cond1 rfl hb31 ?_
                refine HT.skip (qThen ?_)
                refine HT.seq ?_
                refine HT.block ?_
                refine HT.rg2 (oHs 2) ⟨[(2, pV 0 0), (6, aV 1), (7, fV s6.1), (10, fV r18), (13, iV s23.1), (21, nV a1), (22, iV (lenI a1)), (23, iV s6.2.1), (51, iV (lenI y21)), (52, iV s23.1)], [(0, .box [iC a0.1, iC a0.2.1, lC a0.2.2.1, lC a0.2.2.2.1, lC a0.2.2.2.2]), (1, .seq tF s23.2)], 2⟩ hX (by kernel_rfl) allNil ?_
                obtain ⟨hg32, hx29⟩ := of_guard hx29
                refine HT.rgL (oHs 10) ⟨[(2, pV 0 0), (6, aV 1), (7, fV s6.1), (10, fV r18), (21, nV a1), (22, iV (lenI a1)), (23, iV s6.2.1), (51, iV (lenI y21)), (52, iV s23.1)], [(1, .seq tF (List.set s23.2 (Int.toNat s23.1) (fop .quo .f32 (List.getD s23.2 (Int.toNat s23.1) (0 : Nat)) r18))), (0, .box [iC a0.1, iC a0.2.1, lC a0.2.2.1, lC a0.2.2.2.1, lC a0.2.2.2.2])], 2⟩ hX (by kernel_rfl) (allCons hg32 (allCons (natLt hg32) (allCons hg32 (allCons (natLt hg32) allNil)))) (qBlock (qThen ?_))
                have hx29 := of_some hx29
                subst hx29
                refine HT.rgL (oHs 2) ⟨[(2, pV 0 0), (6, aV 1), (7, fV s6.1), (10, fV r18), (21, nV a1), (22, iV (lenI a1)), (23, iV s6.2.1), (51, iV (lenI y21)), (52, iV (wadd .i64 s23.1 (1 : Int)))], [(1, .seq tF (List.set s23.2 (Int.toNat s23.1) (fop .quo .f32 (List.getD s23.2 (Int.toNat s23.1) (0 : Nat)) r18))), (0, .box [iC a0.1, iC a0.2.1, lC a0.2.2.1, lC a0.2.2.2.1, lC a0.2.2.2.2])], 2⟩ hX (by kernel_rfl) allNil (qLoopN ⟨((wadd .i64 s23.1 (1 : Int)), (List.set s23.2 (Int.toNat s23.1) (fop .quo .f32 (List.getD s23.2 (Int.toNat s23.1) (0 : Nat)) r18))), rfl, Le.cv (s := ⟨[(0, 0), (1, 1)], [], [], false⟩) (own := []) (ps := [s6.1 = s6.1, r18 = r18, a1 = a1, (lenI a1) = (lenI a1), s6.2.1 = s6.2.1, (lenI y21) = (lenI y21), (wadd .i64 s23.1 (1 : Int)) = (wadd .i64 s23.1 (1 : Int)), a0.1 = a0.1, a0.2.1 = a0.2.1, a0.2.2.1 = a0.2.2.1, a0.2.2.2.1 = a0.2.2.2.1, a0.2.2.2.2 = a0.2.2.2.2, (List.set s23.2 (Int.toNat s23.1) (fop .quo .f32 (List.getD s23.2 (Int.toNat s23.1) (0 : Nat)) r18)) = (List.set s23.2 (Int.toNat s23.1) (fop .quo .f32 (List.getD s23.2 (Int.toNat s23.1) (0 : Nat)) r18))]) (st' := ⟨[(2, pV 0 0), (6, aV 1), (7, fV s6.1), (10, fV r18), (21, nV a1), (22, iV (lenI a1)), (23, iV s6.2.1), (51, iV (lenI y21)), (52, iV (wadd .i64 s23.1 (1 : Int)))], [(0, .box [iC a0.1, iC a0.2.1, lC a0.2.2.1, lC a0.2.2.2.1, lC a0.2.2.2.2]), (1, .seq tF (List.set s23.2 (Int.toNat s23.1) (fop .quo .f32 (List.getD s23.2 (Int.toNat s23.1) (0 : Nat)) r18)))], 2⟩) hO (fun h => by cases h) (by kernel_rfl) ⟨rfl, rfl, rfl, rfl, rfl, rfl, rfl, rfl, rfl, rfl, rfl, rfl, rfl, trivial⟩⟩)
              · refine HT.cond0 rfl hb31 ?_
                have hx29 := of_some hx29
                subst hx29
                refine (Le.cv (s := ⟨[(0, 0), (1, 1)], [], [], false⟩) (own := []) (ps := [s6.1 = s6.1, r18 = r18, a1 = a1, (lenI a1) = (lenI a1), s6.2.1 = s6.2.1, a0.1 = a0.1, a0.2.1 = a0.2.1, a0.2.2.1 = a0.2.2.1, a0.2.2.2.1 = a0.2.2.2.1, a0.2.2.2.2 = a0.2.2.2.2, s23.2 = s23.2]) (st' := ⟨[(2, pV 0 0), (6, aV 1), (7, fV s6.1), (10, fV r18), (21, nV a1), (22, iV (lenI a1)), (23, iV s6.2.1)], [(0, .box [iC a0.1, iC a0.2.1, lC a0.2.2.1, lC a0.2.2.2.1, lC a0.2.2.2.2]), (1, .seq tF s23.2)], 2⟩) hO (fun h => by cases h) (by kernel_rfl) ⟨rfl, rfl, rfl, rfl, rfl, rfl, rfl, rfl, rfl, rfl, rfl, trivial⟩).ht ?_
                exact HT.exit (qThenE (qLoopE (hk30 s23.2 rfl)))
        · refine HT.rg2 [oH] ⟨[(2, pV 0 0), (6, aV 1), (7, fV s6.1), (9, iV (List.getD a1 (Int.toNat s6.2.1) (0 : Int))), (10, fV s17.1), (21, nV a1), (22, iV (lenI a1)), (23, iV s6.2.1), (27, aV 1), (28, iV (lenI s6.2.2)), (29, iV s17.2), (30, bV (decide (s17.2 < (lenI s6.2.2))))], [(0, .box [iC a0.1, iC a0.2.1, lC a0.2.2.1, lC a0.2.2.2.1, lC a0.2.2.2.2]), (1, .seq tF s6.2.2)], 2⟩ hX (by kernel_rfl) allNil ?_
          refine HT.seq ?_
          rcases of_bif hx35 with ⟨hb37, hx35⟩ | ⟨hb37, hx35⟩
          · refine HT.cond1 rfl hb37 ?_
            refine HT.skip (qThen ?_)
            refine HT.seq ?_
            refine HT.block ?_
            obtain ⟨hg38, hx35⟩ := of_guard hx35
            refine HT.rg2 (oHs 5) ⟨[(2, pV 0 0), (6, aV 1), (7, fV s6.1), (9, iV (List.getD a1 (Int.toNat s6.2.1) (0 : Int))), (10, fV s17.1), (11, iV s17.2), (12, fV (List.getD s6.2.2 (Int.toNat s17.2) (0 : Nat))), (21, nV a1), (22, iV (lenI a1)), (23, iV s6.2.1), (27, aV 1), (28, iV (lenI s6.2.2)), (29, iV s17.2)], [(0, .box [iC a0.1, iC a0.2.1, lC a0.2.2.1, lC a0.2.2.2.1, lC a0.2.2.2.2]), (1, .seq tF s6.2.2)], 2⟩ hX (by kernel_rfl) (allCons hg38 (allCons (natLt hg38) allNil)) ?_
            obtain ⟨y39, hc40, hx35⟩ := of_bind hx35
            refine HT.rgL [oH, oH, oH, oH, oH, ⟨none, .call [.imm (.st (.pair tI (.pair tI (.pair tLF (.pair tLF tLF))))), .imm tI, .imm tI] [⟨false, tF, y39⟩] []⟩, oH, oH, oH] ⟨[(2, pV 0 0), (6, aV 1), (7, fV s6.1), (9, iV (List.getD a1 (Int.toNat s6.2.1) (0 : Int))), (10, fV (fop .add .f32 s17.1 (fop .mul .f32 (List.getD s6.2.2 (Int.toNat s17.2) (0 : Nat)) y39))), (21, nV a1), (22, iV (lenI a1)), (23, iV s6.2.1), (27, aV 1), (28, iV (lenI s6.2.2)), (29, iV s17.2)], [(0, .box [iC a0.1, iC a0.2.1, lC a0.2.2.1, lC a0.2.2.2.1, lC a0.2.2.2.2]), (1, .seq tF s6.2.2)], 2⟩ hX (by kernel_rfl) (allCons (f83_ok hc40) allNil) (qBlock (qThen ?_))
            have hx35 := of_some hx35
            subst hx35
            refine HT.rgL (oHs 2) ⟨[(2, pV 0 0), (6, aV 1), (7, fV s6.1), (9, iV (List.getD a1 (Int.toNat s6.2.1) (0 : Int))), (10, fV (fop .add .f32 s17.1 (fop .mul .f32 (List.getD s6.2.2 (Int.toNat s17.2) (0 : Nat)) y39))), (21, nV a1), (22, iV (lenI a1)), (23, iV s6.2.1), (27, aV 1), (28, iV (lenI s6.2.2)), (29, iV (wadd .i64 s17.2 (1 : Int)))], [(0, .box [iC a0.1, iC a0.2.1, lC a0.2.2.1, lC a0.2.2.2.1, lC a0.2.2.2.2]), (1, .seq tF s6.2.2)], 2⟩ hX (by kernel_rfl) allNil (qLoopN ⟨((fop .add .f32 s17.1 (fop .mul .f32 (List.getD s6.2.2 (Int.toNat s17.2) (0 : Nat)) y39)), (wadd .i64 s17.2 (1 : Int))), rfl, Le.cv (s := ⟨[(0, 0), (1, 1)], [], [], false⟩) (own := []) (ps := [s6.1 = s6.1, (List.getD a1 (Int.toNat s6.2.1) (0 : Int)) = (List.getD a1 (Int.toNat s6.2.1) (0 : Int)), (fop .add .f32 s17.1 (fop .mul .f32 (List.getD s6.2.2 (Int.toNat s17.2) (0 : Nat)) y39)) = (fop .add .f32 s17.1 (fop .mul .f32 (List.getD s6.2.2 (Int.toNat s17.2) (0 : Nat)) y39)), a1 = a1, (lenI a1) = (lenI a1), s6.2.1 = s6.2.1, (lenI s6.2.2) = (lenI s6.2.2), (wadd .i64 s17.2 (1 : Int)) = (wadd .i64 s17.2 (1 : Int)), a0.1 = a0.1, a0.2.1 = a0.2.1, a0.2.2.1 = a0.2.2.1, a0.2.2.2.1 = a0.2.2.2.1, a0.2.2.2.2 = a0.2.2.2.2, s6.2.2 = s6.2.2]) (st' := ⟨[(2, pV 0 0), (6, aV 1), (7, fV s6.1), (9, iV (List.getD a1 (Int.toNat s6.2.1) (0 : Int))), (10, fV (fop .add .f32 s17.1 (fop .mul .f32 (List.getD s6.2.2 (Int.toNat s17.2) (0 : Nat)) y39))), (21, nV a1), (22, iV (lenI a1)), (23, iV s6.2.1), (27, aV 1), (28, iV (lenI s6.2.2)), (29, iV (wadd .i64 s17.2 (1 : Int)))], [(0, .box [iC a0.1, iC a0.2.1, lC a0.2.2.1, lC a0.2.2.2.1, lC a0.2.2.2.2]), (1, .seq tF s6.2.2)], 2⟩) hO (fun h => by cases h) (by kernel_rfl) ⟨rfl, rfl, rfl, rfl, rfl, rfl, rfl, rfl, rfl, rfl, rfl, rfl, rfl, rfl, trivial⟩⟩)
          · refine HT.cond0 rfl hb37 ?_
            have hx35 := of_some hx35
            subst hx35
            refine (Le.cv (s := ⟨[(0, 0), (1, 1)], [], [], false⟩) (own := []) (ps := [s6.1 = s6.1, (List.getD a1 (Int.toNat s6.2.1) (0 : Int)) = (List.getD a1 (Int.toNat s6.2.1) (0 : Int)), s17.1 = s17.1, a1 = a1, (lenI a1) = (lenI a1), s6.2.1 = s6.2.1, a0.1 = a0.1, a0.2.1 = a0.2.1, a0.2.2.1 = a0.2.2.1, a0.2.2.2.1 = a0.2.2.2.1, a0.2.2.2.2 = a0.2.2.2.2, s6.2.2 = s6.2.2]) (st' := ⟨[(2, pV 0 0), (6, aV 1), (7, fV s6.1), (9, iV (List.getD a1 (Int.toNat s6.2.1) (0 : Int))), (10, fV s17.1), (21, nV a1), (22, iV (lenI a1)), (23, iV s6.2.1)], [(0, .box [iC a0.1, iC a0.2.1, lC a0.2.2.1, lC a0.2.2.2.1, lC a0.2.2.2.2]), (1, .seq tF s6.2.2)], 2⟩) hO (fun h => by cases h) (by kernel_rfl) ⟨rfl, rfl, rfl, rfl, rfl, rfl, rfl, rfl, rfl, rfl, rfl, rfl, trivial⟩).ht ?_
            exact HT.exit (qThenE (qLoopE (hk36 s17.1 rfl)))
      · refine HT.cond0 rfl hb15 ?_
        have hx13 := of_some hx13
        subst hx13
        refine (Le.cv (s := ⟨[], [], [], false⟩) (own := []) (ps := [s6.1 = s6.1]) (st' := ⟨[(7, fV s6.1)], [], 0⟩) hO (fun h => by cases h) (by kernel_rfl) ⟨rfl, trivial⟩).ht ?_
        exact HT.exit (qThenE (qLoopE (hk14 (.inl s6.1) rfl)))

noncomputable def impl_likes_B1 (a0 : Int × Int × List Nat × List Nat × List Nat) (a1 : List (List Int)) (s4 : Int × List Nat) : Option ((Int × List Nat) ⊕ (List Nat ⊕ Unit)) :=
  bif (decide (s4.1 < (lenI a1))) then
    guardP ((0 : Int) ≤ s4.1 ∧ s4.1 < lenI a1) (
      (impl_LogChanceOf (a0.1, a0.2.1, a0.2.2.1, a0.2.2.2.1, a0.2.2.2.2) (List.getD a1 (Int.toNat s4.1) ([] : List Int))).bind fun y13 =>
      bif (!y13.2) then
        some (.inr (.inr ()))
      else
        guardP (List.length s4.2 + List.length ([y13.1] : List Nat) ≤ appMax) (
          some (.inl ((wadd .i64 s4.1 (1 : Int)), (s4.2 ++ ([y13.1] : List Nat))))))
  else
    some (.inr (.inl s4.2))

noncomputable def impl_likes (a0 : Int × Int × List Nat × List Nat × List Nat) (a1 : List (List Int)) : Option (List Nat × Bool) :=
  (impl_Model_haveWords (a0.1, a0.2.1, a0.2.2.1, a0.2.2.2.1, a0.2.2.2.2) a1).bind fun y1 =>
  bif (!y1) then
    some (([] : List Nat), false)
  else
    (rounds (impl_likes_B1 a0 a1) ((0 : Int), ([] : List Nat))).bind fun r5 => match r5 with
      | .inl r6 =>
        some (r6, true)
      | .inr r7 =>
        some (([] : List Nat), false)

theorem f68_ok {a0 : Int × Int × List Nat × List Nat × List Nat} {a1 : List (List Int)} {r : List Nat × Bool} (hr : impl_likes a0 a1 = some r) : CallOK Try.prog 68 [.imm (.st (.pair tI (.pair tI (.pair tLF (.pair tLF tLF))))) a0, .imm (.sl tLI) a1] [⟨true, tLF, r.1⟩, ⟨false, .bool, r.2⟩] [] := by
  unfold impl_likes at hr
  refine CallOK.of_body (ts := [(true, tLF), (false, .bool)]) Try.func68 rfl (by kernel_rfl) (Nat.le_of_ble_eq_true (by kernel_rfl)) fun cx hP hN hO hF => ?_
  have hO : cx.own.map Prod.fst = [] := hO
  have hX := CxIs.mk hP hN hO
  have hF := hF rfl
  show HT cx ⟨[(0, .agg [iC a0.1, iC a0.2.1, lC a0.2.2.1, lC a0.2.2.2.1, lC a0.2.2.2.2]), (1, .one (.dat (.sl tLI) a1))], [], 0⟩ _ _
  refine HT.rg2 (oHs 3) ⟨[(1, .one (.dat (.sl tLI) a1)), (2, pV 0 0)], [(0, .box [iC a0.1, iC a0.2.1, lC a0.2.2.1, lC a0.2.2.2.1, lC a0.2.2.2.2])], 1⟩ hX (by kernel_rfl) allNil ?_
  refine HT.seq ?_
  obtain ⟨y1, hc2, hr⟩ := of_bind hr
  refine HT.rg2 [oH, oH, ⟨none, .call [.imm (.st (.pair tI (.pair tI (.pair tLF (.pair tLF tLF))))), .imm (.sl tLI)] [⟨false, .bool, y1⟩] []⟩, oH] ⟨[(1, .one (.dat (.sl tLI) a1)), (2, pV 0 0), (14, bV (!y1))], [(0, .box [iC a0.1, iC a0.2.1, lC a0.2.2.1, lC a0.2.2.2.1, lC a0.2.2.2.2])], 1⟩ hX (by kernel_rfl) (allCons (f62_ok hc2) allNil) ?_
  rcases of_bif hr with ⟨hb3, hr⟩ | ⟨hb3, hr⟩
  · refine HT.cond1 rfl hb3 ?_
    refine HT.rg2 (oHs 2) ⟨[(4, .one (.nilS)), (5, bV false)], [], 1⟩ hX (by kernel_rfl) allNil ?_
    have hr := of_some hr
    subst hr
    exact HT.ret (qThenR ⟨[.one (.nilS), bV false], [], [], by kernel_rfl, by kernel_rfl, rfl, by kernel_rfl, by kernel_rfl, trivial⟩)
  · refine HT.cond0 rfl hb3 ?_
    refine HT.skip (qThen ?_)
    refine HT.rg2 (oHs 2) ⟨[(1, .one (.dat (.sl tLI) a1)), (2, pV 0 0), (6, .one (.nilS))], [(0, .box [iC a0.1, iC a0.2.1, lC a0.2.2.1, lC a0.2.2.2.1, lC a0.2.2.2.2])], 1⟩ hX (by kernel_rfl) allNil ?_
    refine HT.seq ?_
    refine HT.rg2 (oHs 3) ⟨[(2, pV 0 0), (6, .one (.nilS)), (16, .one (.dat (.sl tLI) a1)), (17, iV (lenI a1)), (18, iV (0 : Int))], [(0, .box [iC a0.1, iC a0.2.1, lC a0.2.2.1, lC a0.2.2.2.1, lC a0.2.2.2.2])], 1⟩ hX (by kernel_rfl) allNil ?_
    refine HT.block ?_
    obtain ⟨r5, hL17, hr⟩ := of_bind hr
    refine (Le.cv (s := ⟨[(0, 0)], [1], [], false⟩) (own := []) (ps := [a1 = a1, (lenI a1) = (lenI a1), (0 : Int) = (0 : Int), a0.1 = a0.1, a0.2.1 = a0.2.1, a0.2.2.1 = a0.2.2.1, a0.2.2.2.1 = a0.2.2.2.1, a0.2.2.2.2 = a0.2.2.2.2, ([] : List Nat) = []]) (st' := ⟨[(2, pV 0 0), (6, aV 1), (16, .one (.dat (.sl tLI) a1)), (17, iV (lenI a1)), (18, iV (0 : Int))], [(0, .box [iC a0.1, iC a0.2.1, lC a0.2.2.1, lC a0.2.2.2.1, lC a0.2.2.2.2]), (1, .seq tF ([] : List Nat))], 2⟩) hO (fun h => by cases h) (by kernel_rfl) ⟨rfl, rfl, rfl, rfl, rfl, rfl, rfl, rfl, rfl, trivial⟩).ht ?_
    refine HT.loopE (s := ((0 : Int), ([] : List Nat))) (fun (s4 : Int × List Nat) => ⟨[(2, pV 0 0), (6, aV 1), (16, .one (.dat (.sl tLI) a1)), (17, iV (lenI a1)), (18, iV s4.1)], [(0, .box [iC a0.1, iC a0.2.1, lC a0.2.2.1, lC a0.2.2.2.1, lC a0.2.2.2.2]), (1, .seq tF s4.2)], 2⟩) (fun (r5 : List Nat ⊕ Unit) => match r5 with | .inl r6 => (.exit 0, ⟨[(6, aV 0)], [(0, .seq tF r6)], 1⟩) | .inr r7 => (.ret, ⟨[(4, .one (.nilS)), (5, bV false)], [], 0⟩)) hL17 ?_ (fun s4 x8 hx9 hk10 => ?_)
    · rcases r5 with r6 | r7
      · refine (qBlockX (qThen ?_))
        refine HT.rg2 (oHs 3) ⟨[(4, aV 0), (5, bV true)], [(0, .seq tF r6)], 1⟩ hX (by kernel_rfl) allNil ?_
        have hr := of_some hr
        subst hr
        exact HT.ret ⟨[aV 0, bV true], [0], [], by kernel_rfl, by kernel_rfl, rfl, by kernel_rfl, by kernel_rfl, trivial⟩
      · have hr := of_some hr
        subst hr
        exact (qBlockR (qThenR ⟨[.one (.nilS), bV false], [], [], by kernel_rfl, by kernel_rfl, rfl, by kernel_rfl, by kernel_rfl, trivial⟩))
    · refine HT.rg2 [oH] ⟨[(2, pV 0 0), (6, aV 1), (16, .one (.dat (.sl tLI) a1)), (17, iV (lenI a1)), (18, iV s4.1), (19, bV (decide (s4.1 < (lenI a1))))], [(0, .box [iC a0.1, iC a0.2.1, lC a0.2.2.1, lC a0.2.2.2.1, lC a0.2.2.2.2]), (1, .seq tF s4.2)], 2⟩ hX (by kernel_rfl) allNil ?_
      refine HT.seq ?_
      rcases of_bif hx9 with ⟨hb11, hx9⟩ | ⟨hb11, hx9⟩
      · refine HT.cond1 rfl hb11 ?_
        refine HT.skip (qThen ?_)
        refine HT.seq ?_
        refine HT.block ?_
        obtain ⟨hg12, hx9⟩ := of_guard hx9
        refine HT.rg2 (oHs 3) ⟨[(2, pV 0 0), (6, aV 1), (8, nV (List.getD a1 (Int.toNat s4.1) ([] : List Int))), (16, .one (.dat (.sl tLI) a1)), (17, iV (lenI a1)), (18, iV s4.1)], [(0, .box [iC a0.1, iC a0.2.1, lC a0.2.2.1, lC a0.2.2.2.1, lC a0.2.2.2.2]), (1, .seq tF s4.2)], 2⟩ hX (by kernel_rfl) (allCons hg12 allNil) ?_
        obtain ⟨y13, hc14, hx9⟩ := of_bind hx9
        refine HT.rg2 [oH, oH, ⟨none, .call [.imm (.st (.pair tI (.pair tI (.pair tLF (.pair tLF tLF))))), .imm tLI] [⟨false, tF, y13.1⟩, ⟨false, .bool, y13.2⟩] []⟩, oH, oH, oH, oH, oH] ⟨[(2, pV 0 0), (6, aV 1), (9, fV y13.1), (10, bV y13.2), (16, .one (.dat (.sl tLI) a1)), (17, iV (lenI a1)), (18, iV s4.1)], [(0, .box [iC a0.1, iC a0.2.1, lC a0.2.2.1, lC a0.2.2.2.1, lC a0.2.2.2.2]), (1, .seq tF s4.2)], 2⟩ hX (by kernel_rfl) (allCons (f95_ok hc14) allNil) ?_
        refine HT.seq ?_
        refine HT.rg2 (oHs 2) ⟨[(2, pV 0 0), (6, aV 1), (9, fV y13.1), (16, .one (.dat (.sl tLI) a1)), (17, iV (lenI a1)), (18, iV s4.1), (29, bV (!y13.2))], [(0, .box [iC a0.1, iC a0.2.1, lC a0.2.2.1, lC a0.2.2.2.1, lC a0.2.2.2.2]), (1, .seq tF s4.2)], 2⟩ hX (by kernel_rfl) allNil ?_
        rcases of_bif hx9 with ⟨hb15, hx9⟩ | ⟨hb15, hx9⟩
        · refine HT.cond1 rfl hb15 ?_
          refine HT.rg2 (oHs 2) ⟨[(4, .one (.nilS)), (5, bV false)], [], 2⟩ hX (by kernel_rfl) allNil ?_
          have hx9 := of_some hx9
          subst hx9
          refine (Le.cv (s := ⟨[], [], [], false⟩) (own := []) (ps := [false = false]) (st' := ⟨[(4, .one (.nilS)), (5, bV false)], [], 0⟩) hO (fun h => by cases h) (by kernel_rfl) ⟨rfl, trivial⟩).ht ?_
          exact HT.ret (qThenR (qBlockR (qThenR (qLoopR (hk10 (.inr ()) rfl)))))
        · refine HT.cond0 rfl hb15 ?_
          refine HT.skip (qThen ?_)
          obtain ⟨hg16, hx9⟩ := of_guard hx9
          refine HT.rgL [oH, oH, ⟨none, .ty tF⟩, ⟨none, .ty tF⟩, oH] ⟨[(2, pV 0 0), (6, aV 3), (16, .one (.dat (.sl tLI) a1)), (17, iV (lenI a1)), (18, iV s4.1)], [(3, .seq tF (s4.2 ++ ([y13.1] : List Nat))), (0, .box [iC a0.1, iC a0.2.1, lC a0.2.2.1, lC a0.2.2.2.1, lC a0.2.2.2.2])], 4⟩ hX (by kernel_rfl) (allCons hg16 allNil) (qBlock (qThen ?_))
          have hx9 := of_some hx9
          subst hx9
          refine HT.rgL (oHs 2) ⟨[(2, pV 0 0), (6, aV 3), (16, .one (.dat (.sl tLI) a1)), (17, iV (lenI a1)), (18, iV (wadd .i64 s4.1 (1 : Int)))], [(3, .seq tF (s4.2 ++ ([y13.1] : List Nat))), (0, .box [iC a0.1, iC a0.2.1, lC a0.2.2.1, lC a0.2.2.2.1, lC a0.2.2.2.2])], 4⟩ hX (by kernel_rfl) allNil (qLoopN ⟨((wadd .i64 s4.1 (1 : Int)), (s4.2 ++ ([y13.1] : List Nat))), rfl, Le.cv (s := ⟨[(0, 0), (3, 1)], [], [], false⟩) (own := []) (ps := [a1 = a1, (lenI a1) = (lenI a1), (wadd .i64 s4.1 (1 : Int)) = (wadd .i64 s4.1 (1 : Int)), a0.1 = a0.1, a0.2.1 = a0.2.1, a0.2.2.1 = a0.2.2.1, a0.2.2.2.1 = a0.2.2.2.1, a0.2.2.2.2 = a0.2.2.2.2, (s4.2 ++ ([y13.1] : List Nat)) = (s4.2 ++ ([y13.1] : List Nat))]) (st' := ⟨[(2, pV 0 0), (6, aV 1), (16, .one (.dat (.sl tLI) a1)), (17, iV (lenI a1)), (18, iV (wadd .i64 s4.1 (1 : Int)))], [(0, .box [iC a0.1, iC a0.2.1, lC a0.2.2.1, lC a0.2.2.2.1, lC a0.2.2.2.2]), (1, .seq tF (s4.2 ++ ([y13.1] : List Nat)))], 2⟩) hO (fun h => by cases h) (by kernel_rfl) ⟨rfl, rfl, rfl, rfl, rfl, rfl, rfl, rfl, rfl, trivial⟩⟩)
      · refine HT.cond0 rfl hb11 ?_
        have hx9 := of_some hx9
        subst hx9
        refine (Le.cv (s := ⟨[(1, 0)], [], [], false⟩) (own := []) (ps := [s4.2 = s4.2]) (st' := ⟨[(6, aV 0)], [(0, .seq tF s4.2)], 1⟩) hO (fun h => by cases h) (by kernel_rfl) ⟨rfl, trivial⟩).ht ?_
        exact HT.exit (qThenE (qLoopE (hk10 (.inl s4.2) rfl)))

noncomputable def impl_LikesShared (a0 : Int × Int × List Nat × List Nat × List Nat) (a1 : List (List Int)) (a2 : Int) : Option (List Nat × Bool) :=
  (impl_within a2 (1 : Int) (8 : Int)).bind fun y1 =>
  bif (!y1) then
    some (([] : List Nat), false)
  else
    (impl_likes (a0.1, a0.2.1, a0.2.2.1, a0.2.2.2.1, a0.2.2.2.2) a1).bind fun y4 =>
    some (y4.1, y4.2)

theorem f36_ok {a0 : Int × Int × List Nat × List Nat × List Nat} {a1 : List (List Int)} {a2 : Int} {r : List Nat × Bool} (hr : impl_LikesShared a0 a1 a2 = some r) : CallOK Try.prog 36 [.imm (.st (.pair tI (.pair tI (.pair tLF (.pair tLF tLF))))) a0, .imm (.sl tLI) a1, .imm tI a2] [⟨true, tLF, r.1⟩, ⟨false, .bool, r.2⟩] [] := by
  unfold impl_LikesShared at hr
  refine CallOK.of_body (ts := [(true, tLF), (false, .bool)]) Try.func36 rfl (by kernel_rfl) (Nat.le_of_ble_eq_true (by kernel_rfl)) fun cx hP hN hO hF => ?_
  have hO : cx.own.map Prod.fst = [] := hO
  have hX := CxIs.mk hP hN hO
  have hF := hF rfl
  show HT cx ⟨[(0, .agg [iC a0.1, iC a0.2.1, lC a0.2.2.1, lC a0.2.2.2.1, lC a0.2.2.2.2]), (1, .one (.dat (.sl tLI) a1)), (2, iV a2)], [], 0⟩ _ _
  refine HT.rg2 (oHs 3) ⟨[(1, .one (.dat (.sl tLI) a1)), (2, iV a2), (3, pV 0 0)], [(0, .box [iC a0.1, iC a0.2.1, lC a0.2.2.1, lC a0.2.2.2.1, lC a0.2.2.2.2])], 1⟩ hX (by kernel_rfl) allNil ?_
  refine HT.seq ?_
  obtain ⟨y1, hc2, hr⟩ := of_bind hr
  refine HT.rg2 [oH, ⟨none, .call [.imm tI, .imm tI, .imm tI] [⟨false, .bool, y1⟩] []⟩, oH] ⟨[(1, .one (.dat (.sl tLI) a1)), (3, pV 0 0), (10, bV (!y1))], [(0, .box [iC a0.1, iC a0.2.1, lC a0.2.2.1, lC a0.2.2.2.1, lC a0.2.2.2.2])], 1⟩ hX (by kernel_rfl) (allCons (f54_ok hc2) allNil) ?_
  rcases of_bif hr with ⟨hb3, hr⟩ | ⟨hb3, hr⟩
  · refine HT.cond1 rfl hb3 ?_
    refine HT.rg2 (oHs 2) ⟨[(6, .one (.nilS)), (7, bV false)], [], 1⟩ hX (by kernel_rfl) allNil ?_
    have hr := of_some hr
    subst hr
    exact HT.ret (qThenR ⟨[.one (.nilS), bV false], [], [], by kernel_rfl, by kernel_rfl, rfl, by kernel_rfl, by kernel_rfl, trivial⟩)
  · refine HT.cond0 rfl hb3 ?_
    refine HT.skip (qThen ?_)
    obtain ⟨y4, hc5, hr⟩ := of_bind hr
    refine HT.rg2 [oH, oH, ⟨none, .call [.imm (.st (.pair tI (.pair tI (.pair tLF (.pair tLF tLF))))), .imm (.sl tLI)] [⟨true, tLF, y4.1⟩, ⟨false, .bool, y4.2⟩] []⟩, oH, oH, oH, oH] ⟨[(6, aV 1), (7, bV y4.2)], [(1, .seq tF y4.1)], 2⟩ hX (by kernel_rfl) (allCons (f68_ok hc5) allNil) ?_
    have hr := of_some hr
    subst hr
    exact HT.ret ⟨[aV 1, bV y4.2], [1], [], by kernel_rfl, by kernel_rfl, rfl, by kernel_rfl, by kernel_rfl, trivial⟩

noncomputable def laws_sameFloat (a0 : Nat) (a1 : Nat) : Option (Bool) :=
  (show Option (Bool) from
    bif (!(feq .f64 a0 a0)) then
      some true
    else
      some (!(feq .f64 a1 a1))).bind fun v1 =>
  bif v1 then
    (show Option (Bool) from
      bif (!(feq .f64 a0 a0)) then
        some (!(feq .f64 a1 a1))
      else
        some false).bind fun v5 =>
    some v5
  else
    (show Option (Bool) from
      bif (feq .f64 a0 (0 : Nat)) then
        some (feq .f64 a1 (0 : Nat))
      else
        some false).bind fun v9 =>
    bif v9 then
      some ((fgt .f64 (fop .quo .f64 (4607182418800017408 : Nat) a0) (0 : Nat)) == (fgt .f64 (fop .quo .f64 (4607182418800017408 : Nat) a1) (0 : Nat)))
    else
      some (feq .f64 a0 a1)

theorem f51_ok {a0 : Nat} {a1 : Nat} {r : Bool} (hr : laws_sameFloat a0 a1 = some r) : CallOK Try.prog 51 [.imm (.flt .f64) a0, .imm (.flt .f64) a1] [⟨false, .bool, r⟩] [] := by
  unfold laws_sameFloat at hr
  refine CallOK.of_body (ts := [(false, .bool)]) Try.func51 rfl (by kernel_rfl) (Nat.le_of_ble_eq_true (by kernel_rfl)) fun cx hP hN hO hF => ?_
  have hO : cx.own.map Prod.fst = [] := hO
  have hX := CxIs.mk hP hN hO
  have hF := hF rfl
  show HT cx ⟨[(0, .one (.dat (.flt .f64) a0)), (1, .one (.dat (.flt .f64) a1))], [], 0⟩ _ _
  refine HT.rg2 [oH] ⟨[(0, .one (.dat (.flt .f64) a0)), (1, .one (.dat (.flt .f64) a1))], [], 0⟩ hX (by kernel_rfl) allNil ?_
  refine HT.seq ?_
  obtain ⟨v1', hT3, hr⟩ := of_bind hr
  refine HT.join (fun (v1 : Bool) => ⟨[(0, .one (.dat (.flt .f64) a0)), (1, .one (.dat (.flt .f64) a1)), (12, bV v1)], [], 0⟩) (fun v => v = v1') (fun v1 hv2 => ?_) (fun cont => ?_)
  · subst hv2
    rcases of_bif hr with ⟨hb4, hr⟩ | ⟨hb4, hr⟩
    · refine HT.cond1 rfl hb4 ?_
      obtain ⟨v5', hT7, hr⟩ := of_bind hr
      refine HT.join (fun (v5 : Bool) => ⟨[(4, bV v5)], [], 0⟩) (fun v => v = v5') (fun v5 hv6 => ?_) (fun cont => ?_)
      · subst hv6
        have hr := of_some hr
        subst hr
        exact HT.ret (qThenR ⟨[bV v5], [], [], by kernel_rfl, by kernel_rfl, rfl, by kernel_rfl, by kernel_rfl, trivial⟩)
      · rcases of_bif hT7 with ⟨hb8, hT7⟩ | ⟨hb8, hT7⟩
        · refine HT.rgL [oH, oH, oH, oH, ⟨some true, .no⟩, ⟨some true, .no⟩, ⟨some true, .no⟩, ⟨none, .tv true⟩, oH] ⟨[(4, bV (!(feq .f64 a1 a1)))], [], 0⟩ hX (by kernel_rfl) (allCons hb8 (allCons hb8 (allCons hb8 (allCons hb8 allNil)))) (qThen ?_)
          exact (Le.cv (s := ⟨[], [], [], false⟩) (own := []) (ps := [(!(feq .f64 a1 a1)) = (!(feq .f64 a1 a1))]) (st' := ⟨[(4, bV (!(feq .f64 a1 a1)))], [], 0⟩) hO (fun h => by cases h) (by kernel_rfl) ⟨rfl, trivial⟩).ht (cont (!(feq .f64 a1 a1)) (of_some hT7))
        · refine HT.rgL [oH, oH, oH, oH, ⟨some false, .no⟩, ⟨some false, .no⟩, ⟨some false, .no⟩, ⟨none, .tv false⟩, oH] ⟨[(4, bV false)], [], 0⟩ hX (by kernel_rfl) (allCons hb8 (allCons hb8 (allCons hb8 (allCons hb8 allNil)))) (qThen ?_)
          exact (Le.cv (s := ⟨[], [], [], false⟩) (own := []) (ps := [false = false]) (st' := ⟨[(4, bV false)], [], 0⟩) hO (fun h => by cases h) (by kernel_rfl) ⟨rfl, trivial⟩).ht (cont false (of_some hT7))
    · refine HT.cond0 rfl hb4 ?_
      refine HT.skip (qThen ?_)
      refine HT.seq ?_
      obtain ⟨v9', hT11, hr⟩ := of_bind hr
      refine HT.join (fun (v9 : Bool) => ⟨[(0, .one (.dat (.flt .f64) a0)), (1, .one (.dat (.flt .f64) a1)), (26, bV v9)], [], 0⟩) (fun v => v = v9') (fun v9 hv10 => ?_) (fun cont => ?_)
      · subst hv10
        rcases of_bif hr with ⟨hb12, hr⟩ | ⟨hb12, hr⟩
        · refine HT.cond1 rfl hb12 ?_
          refine HT.rg2 (oHs 8) ⟨[(4, bV ((fgt .f64 (fop .quo .f64 (4607182418800017408 : Nat) a0) (0 : Nat)) == (fgt .f64 (fop .quo .f64 (4607182418800017408 : Nat) a1) (0 : Nat))))], [], 0⟩ hX (by kernel_rfl) allNil ?_
          have hr := of_some hr
          subst hr
          exact HT.ret (qThenR ⟨[bV ((fgt .f64 (fop .quo .f64 (4607182418800017408 : Nat) a0) (0 : Nat)) == (fgt .f64 (fop .quo .f64 (4607182418800017408 : Nat) a1) (0 : Nat)))], [], [], by kernel_rfl, by kernel_rfl, rfl, by kernel_rfl, by kernel_rfl, trivial⟩)
        · refine HT.cond0 rfl hb12 ?_
          refine HT.skip (qThen ?_)
          refine HT.rg2 (oHs 4) ⟨[(4, bV (feq .f64 a0 a1))], [], 0⟩ hX (by kernel_rfl) allNil ?_
          have hr := of_some hr
          subst hr
          exact HT.ret ⟨[bV (feq .f64 a0 a1)], [], [], by kernel_rfl, by kernel_rfl, rfl, by kernel_rfl, by kernel_rfl, trivial⟩
      · rcases of_bif hT11 with ⟨hb13, hT11⟩ | ⟨hb13, hT11⟩
        · refine HT.rgL [oH, oH, oH, ⟨some true, .no⟩, ⟨some true, .no⟩, ⟨none, .tv true⟩] ⟨[(0, .one (.dat (.flt .f64) a0)), (1, .one (.dat (.flt .f64) a1)), (26, bV (feq .f64 a1 (0 : Nat)))], [], 0⟩ hX (by kernel_rfl) (allCons hb13 (allCons hb13 (allCons hb13 allNil))) (qThen ?_)
          exact (Le.cv (s := ⟨[], [], [], false⟩) (own := []) (ps := [a0 = a0, a1 = a1, (feq .f64 a1 (0 : Nat)) = (feq .f64 a1 (0 : Nat))]) (st' := ⟨[(0, .one (.dat (.flt .f64) a0)), (1, .one (.dat (.flt .f64) a1)), (26, bV (feq .f64 a1 (0 : Nat)))], [], 0⟩) hO (fun h => by cases h) (by kernel_rfl) ⟨rfl, rfl, rfl, trivial⟩).ht (cont (feq .f64 a1 (0 : Nat)) (of_some hT11))
        · refine HT.rgL [oH, oH, oH, ⟨some false, .no⟩, ⟨some false, .no⟩, ⟨none, .tv false⟩] ⟨[(0, .one (.dat (.flt .f64) a0)), (1, .one (.dat (.flt .f64) a1)), (26, bV false)], [], 0⟩ hX (by kernel_rfl) (allCons hb13 (allCons hb13 (allCons hb13 allNil))) (qThen ?_)
          exact (Le.cv (s := ⟨[], [], [], false⟩) (own := []) (ps := [a0 = a0, a1 = a1, false = false]) (st' := ⟨[(0, .one (.dat (.flt .f64) a0)), (1, .one (.dat (.flt .f64) a1)), (26, bV false)], [], 0⟩) hO (fun h => by cases h) (by kernel_rfl) ⟨rfl, rfl, rfl, trivial⟩).ht (cont false (of_some hT11))
  · rcases of_bif hT3 with ⟨hb14, hT3⟩ | ⟨hb14, hT3⟩
    · refine HT.rgL [oH, oH, oH, oH, ⟨some true, .no⟩, ⟨some true, .no⟩, ⟨some true, .no⟩, ⟨none, .tv true⟩] ⟨[(0, .one (.dat (.flt .f64) a0)), (1, .one (.dat (.flt .f64) a1)), (12, bV true)], [], 0⟩ hX (by kernel_rfl) (allCons hb14 (allCons hb14 (allCons hb14 (allCons hb14 allNil)))) (qThen ?_)
      exact (Le.cv (s := ⟨[], [], [], false⟩) (own := []) (ps := [a0 = a0, a1 = a1, true = true]) (st' := ⟨[(0, .one (.dat (.flt .f64) a0)), (1, .one (.dat (.flt .f64) a1)), (12, bV true)], [], 0⟩) hO (fun h => by cases h) (by kernel_rfl) ⟨rfl, rfl, rfl, trivial⟩).ht (cont true (of_some hT3))
    · refine HT.rgL [oH, oH, oH, oH, ⟨some false, .no⟩, ⟨some false, .no⟩, ⟨some false, .no⟩, ⟨none, .tv false⟩] ⟨[(0, .one (.dat (.flt .f64) a0)), (1, .one (.dat (.flt .f64) a1)), (12, bV (!(feq .f64 a1 a1)))], [], 0⟩ hX (by kernel_rfl) (allCons hb14 (allCons hb14 (allCons hb14 (allCons hb14 allNil)))) (qThen ?_)
      exact (Le.cv (s := ⟨[], [], [], false⟩) (own := []) (ps := [a0 = a0, a1 = a1, (!(feq .f64 a1 a1)) = (!(feq .f64 a1 a1))]) (st' := ⟨[(0, .one (.dat (.flt .f64) a0)), (1, .one (.dat (.flt .f64) a1)), (12, bV (!(feq .f64 a1 a1)))], [], 0⟩) hO (fun h => by cases h) (by kernel_rfl) ⟨rfl, rfl, rfl, trivial⟩).ht (cont (!(feq .f64 a1 a1)) (of_some hT3))

noncomputable def laws_eqFloat32S_B1 (a0 : List Nat) (a1 : List Nat) (s2 : Int) : Option ((Int) ⊕ (Unit ⊕ Unit)) :=
  bif (decide (s2 < (lenI a0))) then
    guardP ((0 : Int) ≤ s2 ∧ s2 < lenI a0) (
      guardP ((0 : Int) ≤ s2 ∧ s2 < lenI a1) (
        (laws_sameFloat (fconv .f32 .f64 (List.getD a0 (Int.toNat s2) (0 : Nat))) (fconv .f32 .f64 (List.getD a1 (Int.toNat s2) (0 : Nat)))).bind fun y12 =>
        bif (!y12) then
          some (.inr (.inr ()))
        else
          some (.inl (wadd .i64 s2 (1 : Int)))))
  else
    some (.inr (.inl ()))

noncomputable def laws_eqFloat32S (a0 : List Nat) (a1 : List Nat) : Option (Bool) :=
  bif ((lenI a0) != (lenI a1)) then
    some false
  else
    (rounds (laws_eqFloat32S_B1 a0 a1) (0 : Int)).bind fun r3 => match r3 with
      | .inl r4 =>
        some true
      | .inr r5 =>
        some false

theorem f15_ok {a0 : List Nat} {a1 : List Nat} {r : Bool} (hr : laws_eqFloat32S a0 a1 = some r) : CallOK Try.prog 15 [.imm tLF a0, .imm tLF a1] [⟨false, .bool, r⟩] [] := by
  unfold laws_eqFloat32S at hr
  refine CallOK.of_body (ts := [(false, .bool)]) Try.func15 rfl (by kernel_rfl) (Nat.le_of_ble_eq_true (by kernel_rfl)) fun cx hP hN hO hF => ?_
  have hO : cx.own.map Prod.fst = [] := hO
  have hX := CxIs.mk hP hN hO
  have hF := hF rfl
  show HT cx ⟨[(0, lV a0), (1, lV a1)], [], 0⟩ _ _
  refine HT.rg2 [oH] ⟨[(0, lV a0), (1, lV a1)], [], 0⟩ hX (by kernel_rfl) allNil ?_
  refine HT.seq ?_
  refine HT.rg2 (oHs 5) ⟨[(0, lV a0), (1, lV a1), (10, bV ((lenI a0) != (lenI a1)))], [], 0⟩ hX (by kernel_rfl) allNil ?_
  rcases of_bif hr with ⟨hb1, hr⟩ | ⟨hb1, hr⟩
  · refine HT.cond1 rfl hb1 ?_
    refine HT.rg2 [oH] ⟨[(4, bV false)], [], 0⟩ hX (by kernel_rfl) allNil ?_
    have hr := of_some hr
    subst hr
    exact HT.ret (qThenR ⟨[bV false], [], [], by kernel_rfl, by kernel_rfl, rfl, by kernel_rfl, by kernel_rfl, trivial⟩)
  · refine HT.cond0 rfl hb1 ?_
    refine HT.skip (qThen ?_)
    refine HT.seq ?_
    refine HT.rg2 [oH] ⟨[(0, lV a0), (1, lV a1), (5, iV (0 : Int))], [], 0⟩ hX (by kernel_rfl) allNil ?_
    refine HT.block ?_
    obtain ⟨r3, hL15, hr⟩ := of_bind hr
    refine (Le.cv (s := ⟨[], [], [], false⟩) (own := []) (ps := [a0 = a0, a1 = a1, (0 : Int) = (0 : Int)]) (st' := ⟨[(0, lV a0), (1, lV a1), (5, iV (0 : Int))], [], 0⟩) hO (fun h => by cases h) (by kernel_rfl) ⟨rfl, rfl, rfl, trivial⟩).ht ?_
    refine HT.loopE (s := (0 : Int)) (fun (s2 : Int) => ⟨[(0, lV a0), (1, lV a1), (5, iV s2)], [], 0⟩) (fun (r3 : Unit ⊕ Unit) => match r3 with | .inl r4 => (.exit 0, ⟨[], [], 0⟩) | .inr r5 => (.ret, ⟨[(4, bV false)], [], 0⟩)) hL15 ?_ (fun s2 x6 hx7 hk8 => ?_)
    · rcases r3 with r4 | r5
      · refine (qBlockX (qThen ?_))
        refine HT.rg2 [oH] ⟨[(4, bV true)], [], 0⟩ hX (by kernel_rfl) allNil ?_
        have hr := of_some hr
        subst hr
        exact HT.ret ⟨[bV true], [], [], by kernel_rfl, by kernel_rfl, rfl, by kernel_rfl, by kernel_rfl, trivial⟩
      · have hr := of_some hr
        subst hr
        exact (qBlockR (qThenR ⟨[bV false], [], [], by kernel_rfl, by kernel_rfl, rfl, by kernel_rfl, by kernel_rfl, trivial⟩))
    · refine HT.seq ?_
      refine HT.rg2 (oHs 4) ⟨[(0, lV a0), (1, lV a1), (5, iV s2), (14, bV (decide (s2 < (lenI a0))))], [], 0⟩ hX (by kernel_rfl) allNil ?_
      rcases of_bif hx7 with ⟨hb9, hx7⟩ | ⟨hb9, hx7⟩
      · refine HT.cond1 rfl hb9 ?_
        refine HT.skip (qThen ?_)
        refine HT.seq ?_
        refine HT.block ?_
        obtain ⟨hg10, hx7⟩ := of_guard hx7
        obtain ⟨hg11, hx7⟩ := of_guard hx7
        obtain ⟨y12, hc13, hx7⟩ := of_bind hx7
        refine HT.dr2 10 [⟨oH, []⟩, ⟨oH, []⟩, ⟨oH, [0, 1]⟩, ⟨oH, [0, 1, 2]⟩, ⟨oH, [0, 1, 2, 3]⟩, ⟨oH, []⟩, ⟨oH, []⟩, ⟨oH, [5, 6]⟩, ⟨oH, [5, 6, 7]⟩, ⟨oH, [5, 6, 7, 8]⟩] [[0, 1, 2, 3, 4, 5, 6, 7, 8, 9], [0, 1, 2, 3, 4, 5, 6, 7, 8, 9, 10]] [⟨none, .call [.imm (.flt .f64), .imm (.flt .f64)] [⟨false, .bool, y12⟩] []⟩, oH] ⟨[(0, lV a0), (1, lV a1), (5, iV s2), (28, bV (!y12))], [], 0⟩ hX (by kernel_rfl) (by kernel_rfl) (allCons hg10 (allCons (show fconvOK .f32 .f64 (List.getD a0 (Int.toNat s2) (0 : Nat)) = true from (fconv_up _)) (allCons hg11 (allCons (show fconvOK .f32 .f64 (List.getD a1 (Int.toNat s2) (0 : Nat)) = true from (fconv_up _)) (allCons (f51_ok hc13) allNil))))) ?_
        rcases of_bif hx7 with ⟨hb14, hx7⟩ | ⟨hb14, hx7⟩
        · refine HT.cond1 rfl hb14 ?_
          refine HT.rg2 [oH] ⟨[(4, bV false)], [], 0⟩ hX (by kernel_rfl) allNil ?_
          have hx7 := of_some hx7
          subst hx7
          refine (Le.cv (s := ⟨[], [], [], false⟩) (own := []) (ps := [false = false]) (st' := ⟨[(4, bV false)], [], 0⟩) hO (fun h => by cases h) (by kernel_rfl) ⟨rfl, trivial⟩).ht ?_
          exact HT.ret (qBlockR (qThenR (qLoopR (hk8 (.inr ()) rfl))))
        · refine HT.cond0 rfl hb14 ?_
          refine HT.skip (qBlock (qThen ?_))
          have hx7 := of_some hx7
          subst hx7
          refine HT.rgL (oHs 3) ⟨[(0, lV a0), (1, lV a1), (5, iV (wadd .i64 s2 (1 : Int)))], [], 0⟩ hX (by kernel_rfl) allNil (qLoopN ⟨(wadd .i64 s2 (1 : Int)), rfl, Le.cv (s := ⟨[], [], [], false⟩) (own := []) (ps := [a0 = a0, a1 = a1, (wadd .i64 s2 (1 : Int)) = (wadd .i64 s2 (1 : Int))]) (st' := ⟨[(0, lV a0), (1, lV a1), (5, iV (wadd .i64 s2 (1 : Int)))], [], 0⟩) hO (fun h => by cases h) (by kernel_rfl) ⟨rfl, rfl, rfl, trivial⟩⟩)
      · refine HT.cond0 rfl hb9 ?_
        have hx7 := of_some hx7
        subst hx7
        refine (Le.cv (s := ⟨[], [], [], false⟩) (own := []) (ps := []) (st' := ⟨[], [], 0⟩) hO (fun h => by cases h) (by kernel_rfl) trivial).ht ?_
        exact HT.exit (qThenE (qLoopE (hk8 (.inl ()) rfl)))

noncomputable def laws_eqModel (a0 : Int × Int × List Nat × List Nat × List Nat) (a1 : Int × Int × List Nat × List Nat × List Nat) : Option (Bool) :=
  bif (a0.1 != a1.1) then
    some false
  else
    bif (a0.2.1 != a1.2.1) then
      some false
    else
      (laws_eqFloat32S a0.2.2.1 a1.2.2.1).bind fun y3 =>
      bif (!y3) then
        some false
      else
        (laws_eqFloat32S a0.2.2.2.1 a1.2.2.2.1).bind fun y6 =>
        bif (!y6) then
          some false
        else
          (laws_eqFloat32S a0.2.2.2.2 a1.2.2.2.2).bind fun y9 =>
          bif (!y9) then
            some false
          else
            some true

theorem f16_ok {a0 : Int × Int × List Nat × List Nat × List Nat} {a1 : Int × Int × List Nat × List Nat × List Nat} {r : Bool} (hr : laws_eqModel a0 a1 = some r) : CallOK Try.prog 16 [.imm (.st (.pair tI (.pair tI (.pair tLF (.pair tLF tLF))))) a0, .imm (.st (.pair tI (.pair tI (.pair tLF (.pair tLF tLF))))) a1] [⟨false, .bool, r⟩] [] := by
  unfold laws_eqModel at hr
  refine CallOK.of_body (ts := [(false, .bool)]) Try.func16 rfl (by kernel_rfl) (Nat.le_of_ble_eq_true (by kernel_rfl)) fun cx hP hN hO hF => ?_
  have hO : cx.own.map Prod.fst = [] := hO
  have hX := CxIs.mk hP hN hO
  have hF := hF rfl
  show HT cx ⟨[(0, .agg [iC a0.1, iC a0.2.1, lC a0.2.2.1, lC a0.2.2.2.1, lC a0.2.2.2.2]), (1, .agg [iC a1.1, iC a1.2.1, lC a1.2.2.1, lC a1.2.2.2.1, lC a1.2.2.2.2])], [], 0⟩ _ _
  refine HT.rg2 (oHs 3) ⟨[(2, pV 0 0), (3, pV 1 0)], [(1, .box [iC a1.1, iC a1.2.1, lC a1.2.2.1, lC a1.2.2.2.1, lC a1.2.2.2.2]), (0, .box [iC a0.1, iC a0.2.1, lC a0.2.2.1, lC a0.2.2.2.1, lC a0.2.2.2.2])], 2⟩ hX (by kernel_rfl) allNil ?_
  refine HT.seq ?_
  refine HT.rg2 (oHs 5) ⟨[(2, pV 0 0), (3, pV 1 0), (9, bV (a0.1 != a1.1))], [(1, .box [iC a1.1, iC a1.2.1, lC a1.2.2.1, lC a1.2.2.2.1, lC a1.2.2.2.2]), (0, .box [iC a0.1, iC a0.2.1, lC a0.2.2.1, lC a0.2.2.2.1, lC a0.2.2.2.2])], 2⟩ hX (by kernel_rfl) allNil ?_
  rcases of_bif hr with ⟨hb1, hr⟩ | ⟨hb1, hr⟩
  · refine HT.cond1 rfl hb1 ?_
    refine HT.rg2 [oH] ⟨[(4, bV false)], [], 2⟩ hX (by kernel_rfl) allNil ?_
    have hr := of_some hr
    subst hr
    exact HT.ret (qThenR ⟨[bV false], [], [], by kernel_rfl, by kernel_rfl, rfl, by kernel_rfl, by kernel_rfl, trivial⟩)
  · refine HT.cond0 rfl hb1 ?_
    refine HT.skip (qThen ?_)
    refine HT.seq ?_
    refine HT.rg2 (oHs 5) ⟨[(2, pV 0 0), (3, pV 1 0), (14, bV (a0.2.1 != a1.2.1))], [(1, .box [iC a1.1, iC a1.2.1, lC a1.2.2.1, lC a1.2.2.2.1, lC a1.2.2.2.2]), (0, .box [iC a0.1, iC a0.2.1, lC a0.2.2.1, lC a0.2.2.2.1, lC a0.2.2.2.2])], 2⟩ hX (by kernel_rfl) allNil ?_
    rcases of_bif hr with ⟨hb2, hr⟩ | ⟨hb2, hr⟩
    · refine HT.cond1 rfl hb2 ?_
      refine HT.rg2 [oH] ⟨[(4, bV false)], [], 2⟩ hX (by kernel_rfl) allNil ?_
      have hr := of_some hr
      subst hr
      exact HT.ret (qThenR ⟨[bV false], [], [], by kernel_rfl, by kernel_rfl, rfl, by kernel_rfl, by kernel_rfl, trivial⟩)
    · refine HT.cond0 rfl hb2 ?_
      refine HT.skip (qThen ?_)
      refine HT.seq ?_
      obtain ⟨y3, hc4, hr⟩ := of_bind hr
      refine HT.rg2 [oH, oH, oH, oH, ⟨none, .call [.imm tLF, .imm tLF] [⟨false, .bool, y3⟩] []⟩, oH] ⟨[(2, pV 0 0), (3, pV 1 0), (20, bV (!y3))], [(1, .box [iC a1.1, iC a1.2.1, lC a1.2.2.1, lC a1.2.2.2.1, lC a1.2.2.2.2]), (0, .box [iC a0.1, iC a0.2.1, lC a0.2.2.1, lC a0.2.2.2.1, lC a0.2.2.2.2])], 2⟩ hX (by kernel_rfl) (allCons (f15_ok hc4) allNil) ?_
      rcases of_bif hr with ⟨hb5, hr⟩ | ⟨hb5, hr⟩
      · refine HT.cond1 rfl hb5 ?_
        refine HT.rg2 [oH] ⟨[(4, bV false)], [], 2⟩ hX (by kernel_rfl) allNil ?_
        have hr := of_some hr
        subst hr
        exact HT.ret (qThenR ⟨[bV false], [], [], by kernel_rfl, by kernel_rfl, rfl, by kernel_rfl, by kernel_rfl, trivial⟩)
      · refine HT.cond0 rfl hb5 ?_
        refine HT.skip (qThen ?_)
        refine HT.seq ?_
        obtain ⟨y6, hc7, hr⟩ := of_bind hr
        refine HT.rg2 [oH, oH, oH, oH, ⟨none, .call [.imm tLF, .imm tLF] [⟨false, .bool, y6⟩] []⟩, oH] ⟨[(2, pV 0 0), (3, pV 1 0), (26, bV (!y6))], [(1, .box [iC a1.1, iC a1.2.1, lC a1.2.2.1, lC a1.2.2.2.1, lC a1.2.2.2.2]), (0, .box [iC a0.1, iC a0.2.1, lC a0.2.2.1, lC a0.2.2.2.1, lC a0.2.2.2.2])], 2⟩ hX (by kernel_rfl) (allCons (f15_ok hc7) allNil) ?_
        rcases of_bif hr with ⟨hb8, hr⟩ | ⟨hb8, hr⟩
        · refine HT.cond1 rfl hb8 ?_
          refine HT.rg2 [oH] ⟨[(4, bV false)], [], 2⟩ hX (by kernel_rfl) allNil ?_
          have hr := of_some hr
          subst hr
          exact HT.ret (qThenR ⟨[bV false], [], [], by kernel_rfl, by kernel_rfl, rfl, by kernel_rfl, by kernel_rfl, trivial⟩)
        · refine HT.cond0 rfl hb8 ?_
          refine HT.skip (qThen ?_)
          refine HT.seq ?_
          obtain ⟨y9, hc10, hr⟩ := of_bind hr
          refine HT.rg2 [oH, oH, oH, oH, ⟨none, .call [.imm tLF, .imm tLF] [⟨false, .bool, y9⟩] []⟩, oH] ⟨[(32, bV (!y9))], [], 2⟩ hX (by kernel_rfl) (allCons (f15_ok hc10) allNil) ?_
          rcases of_bif hr with ⟨hb11, hr⟩ | ⟨hb11, hr⟩
          · refine HT.cond1 rfl hb11 ?_
            refine HT.rg2 [oH] ⟨[(4, bV false)], [], 2⟩ hX (by kernel_rfl) allNil ?_
            have hr := of_some hr
            subst hr
            exact HT.ret (qThenR ⟨[bV false], [], [], by kernel_rfl, by kernel_rfl, rfl, by kernel_rfl, by kernel_rfl, trivial⟩)
          · refine HT.cond0 rfl hb11 ?_
            refine HT.skip (qThen ?_)
            refine HT.rg2 [oH] ⟨[(4, bV true)], [], 2⟩ hX (by kernel_rfl) allNil ?_
            have hr := of_some hr
            subst hr
            exact HT.ret ⟨[bV true], [], [], by kernel_rfl, by kernel_rfl, rfl, by kernel_rfl, by kernel_rfl, trivial⟩

noncomputable def laws_eqInt64S_B1 (a0 : List Int) (a1 : List Int) (s2 : Int) : Option ((Int) ⊕ (Unit ⊕ Unit)) :=
  bif (decide (s2 < (lenI a0))) then
    guardP ((0 : Int) ≤ s2 ∧ s2 < lenI a0) (
      guardP ((0 : Int) ≤ s2 ∧ s2 < lenI a1) (
        bif ((List.getD a0 (Int.toNat s2) (0 : Int)) != (List.getD a1 (Int.toNat s2) (0 : Int))) then
          some (.inr (.inr ()))
        else
          some (.inl (wadd .i64 s2 (1 : Int)))))
  else
    some (.inr (.inl ()))

noncomputable def laws_eqInt64S (a0 : List Int) (a1 : List Int) : Option (Bool) :=
  bif ((lenI a0) != (lenI a1)) then
    some false
  else
    (rounds (laws_eqInt64S_B1 a0 a1) (0 : Int)).bind fun r3 => match r3 with
      | .inl r4 =>
        some true
      | .inr r5 =>
        some false

theorem f17_ok {a0 : List Int} {a1 : List Int} {r : Bool} (hr : laws_eqInt64S a0 a1 = some r) : CallOK Try.prog 17 [.imm tLI a0, .imm tLI a1] [⟨false, .bool, r⟩] [] := by
  unfold laws_eqInt64S at hr
  refine CallOK.of_body (ts := [(false, .bool)]) Try.func17 rfl (by kernel_rfl) (Nat.le_of_ble_eq_true (by kernel_rfl)) fun cx hP hN hO hF => ?_
  have hO : cx.own.map Prod.fst = [] := hO
  have hX := CxIs.mk hP hN hO
  have hF := hF rfl
  show HT cx ⟨[(0, nV a0), (1, nV a1)], [], 0⟩ _ _
  refine HT.rg2 [oH] ⟨[(0, nV a0), (1, nV a1)], [], 0⟩ hX (by kernel_rfl) allNil ?_
  refine HT.seq ?_
  refine HT.rg2 (oHs 5) ⟨[(0, nV a0), (1, nV a1), (10, bV ((lenI a0) != (lenI a1)))], [], 0⟩ hX (by kernel_rfl) allNil ?_
  rcases of_bif hr with ⟨hb1, hr⟩ | ⟨hb1, hr⟩
  · refine HT.cond1 rfl hb1 ?_
    refine HT.rg2 [oH] ⟨[(4, bV false)], [], 0⟩ hX (by kernel_rfl) allNil ?_
    have hr := of_some hr
    subst hr
    exact HT.ret (qThenR ⟨[bV false], [], [], by kernel_rfl, by kernel_rfl, rfl, by kernel_rfl, by kernel_rfl, trivial⟩)
  · refine HT.cond0 rfl hb1 ?_
    refine HT.skip (qThen ?_)
    refine HT.seq ?_
    refine HT.rg2 [oH] ⟨[(0, nV a0), (1, nV a1), (5, iV (0 : Int))], [], 0⟩ hX (by kernel_rfl) allNil ?_
    refine HT.block ?_
    obtain ⟨r3, hL13, hr⟩ := of_bind hr
    refine (Le.cv (s := ⟨[], [], [], false⟩) (own := []) (ps := [a0 = a0, a1 = a1, (0 : Int) = (0 : Int)]) (st' := ⟨[(0, nV a0), (1, nV a1), (5, iV (0 : Int))], [], 0⟩) hO (fun h => by cases h) (by kernel_rfl) ⟨rfl, rfl, rfl, trivial⟩).ht ?_
    refine HT.loopE (s := (0 : Int)) (fun (s2 : Int) => ⟨[(0, nV a0), (1, nV a1), (5, iV s2)], [], 0⟩) (fun (r3 : Unit ⊕ Unit) => match r3 with | .inl r4 => (.exit 0, ⟨[], [], 0⟩) | .inr r5 => (.ret, ⟨[(4, bV false)], [], 0⟩)) hL13 ?_ (fun s2 x6 hx7 hk8 => ?_)
    · rcases r3 with r4 | r5
      · refine (qBlockX (qThen ?_))
        refine HT.rg2 [oH] ⟨[(4, bV true)], [], 0⟩ hX (by kernel_rfl) allNil ?_
        have hr := of_some hr
        subst hr
        exact HT.ret ⟨[bV true], [], [], by kernel_rfl, by kernel_rfl, rfl, by kernel_rfl, by kernel_rfl, trivial⟩
      · have hr := of_some hr
        subst hr
        exact (qBlockR (qThenR ⟨[bV false], [], [], by kernel_rfl, by kernel_rfl, rfl, by kernel_rfl, by kernel_rfl, trivial⟩))
    · refine HT.seq ?_
      refine HT.rg2 (oHs 4) ⟨[(0, nV a0), (1, nV a1), (5, iV s2), (14, bV (decide (s2 < (lenI a0))))], [], 0⟩ hX (by kernel_rfl) allNil ?_
      rcases of_bif hx7 with ⟨hb9, hx7⟩ | ⟨hb9, hx7⟩
      · refine HT.cond1 rfl hb9 ?_
        refine HT.skip (qThen ?_)
        refine HT.seq ?_
        refine HT.block ?_
        obtain ⟨hg10, hx7⟩ := of_guard hx7
        obtain ⟨hg11, hx7⟩ := of_guard hx7
        refine HT.dr2 8 [⟨oH, []⟩, ⟨oH, []⟩, ⟨oH, [0, 1]⟩, ⟨oH, [0, 1, 2]⟩, ⟨oH, []⟩, ⟨oH, []⟩, ⟨oH, [4, 5]⟩, ⟨oH, [4, 5, 6]⟩] [[0, 1, 2, 3, 4, 5, 6, 7]] [oH] ⟨[(0, nV a0), (1, nV a1), (5, iV s2), (25, bV ((List.getD a0 (Int.toNat s2) (0 : Int)) != (List.getD a1 (Int.toNat s2) (0 : Int))))], [], 0⟩ hX (by kernel_rfl) (by kernel_rfl) (allCons hg10 (allCons hg11 allNil)) ?_
        rcases of_bif hx7 with ⟨hb12, hx7⟩ | ⟨hb12, hx7⟩
        · refine HT.cond1 rfl hb12 ?_
          refine HT.rg2 [oH] ⟨[(4, bV false)], [], 0⟩ hX (by kernel_rfl) allNil ?_
          have hx7 := of_some hx7
          subst hx7
          refine (Le.cv (s := ⟨[], [], [], false⟩) (own := []) (ps := [false = false]) (st' := ⟨[(4, bV false)], [], 0⟩) hO (fun h => by cases h) (by kernel_rfl) ⟨rfl, trivial⟩).ht ?_
          exact HT.ret (qBlockR (qThenR (qLoopR (hk8 (.inr ()) rfl))))
        · refine HT.cond0 rfl hb12 ?_
          refine HT.skip (qBlock (qThen ?_))
          have hx7 := of_some hx7
          subst hx7
          refine HT.rgL (oHs 3) ⟨[(0, nV a0), (1, nV a1), (5, iV (wadd .i64 s2 (1 : Int)))], [], 0⟩ hX (by kernel_rfl) allNil (qLoopN ⟨(wadd .i64 s2 (1 : Int)), rfl, Le.cv (s := ⟨[], [], [], false⟩) (own := []) (ps := [a0 = a0, a1 = a1, (wadd .i64 s2 (1 : Int)) = (wadd .i64 s2 (1 : Int))]) (st' := ⟨[(0, nV a0), (1, nV a1), (5, iV (wadd .i64 s2 (1 : Int)))], [], 0⟩) hO (fun h => by cases h) (by kernel_rfl) ⟨rfl, rfl, rfl, trivial⟩⟩)
      · refine HT.cond0 rfl hb9 ?_
        have hx7 := of_some hx7
        subst hx7
        refine (Le.cv (s := ⟨[], [], [], false⟩) (own := []) (ps := []) (st' := ⟨[], [], 0⟩) hO (fun h => by cases h) (by kernel_rfl) trivial).ht ?_
        exact HT.exit (qThenE (qLoopE (hk8 (.inl ()) rfl)))

noncomputable def laws_eqInt64SS_B1 (a0 : List (List Int)) (a1 : List (List Int)) (s2 : Int) : Option ((Int) ⊕ (Unit ⊕ Unit)) :=
  bif (decide (s2 < (lenI a0))) then
    guardP ((0 : Int) ≤ s2 ∧ s2 < lenI a0) (
      guardP ((0 : Int) ≤ s2 ∧ s2 < lenI a1) (
        (laws_eqInt64S (List.getD a0 (Int.toNat s2) ([] : List Int)) (List.getD a1 (Int.toNat s2) ([] : List Int))).bind fun y12 =>
        bif (!y12) then
          some (.inr (.inr ()))
        else
          some (.inl (wadd .i64 s2 (1 : Int)))))
  else
    some (.inr (.inl ()))

noncomputable def laws_eqInt64SS (a0 : List (List Int)) (a1 : List (List Int)) : Option (Bool) :=
  bif ((lenI a0) != (lenI a1)) then
    some false
  else
    (rounds (laws_eqInt64SS_B1 a0 a1) (0 : Int)).bind fun r3 => match r3 with
      | .inl r4 =>
        some true
      | .inr r5 =>
        some false

theorem f30_ok {a0 : List (List Int)} {a1 : List (List Int)} {r : Bool} (hr : laws_eqInt64SS a0 a1 = some r) : CallOK Try.prog 30 [.imm (.sl tLI) a0, .imm (.sl tLI) a1] [⟨false, .bool, r⟩] [] := by
  unfold laws_eqInt64SS at hr
  refine CallOK.of_body (ts := [(false, .bool)]) Try.func30 rfl (by kernel_rfl) (Nat.le_of_ble_eq_true (by kernel_rfl)) fun cx hP hN hO hF => ?_
  have hO : cx.own.map Prod.fst = [] := hO
  have hX := CxIs.mk hP hN hO
  have hF := hF rfl
  show HT cx ⟨[(0, .one (.dat (.sl tLI) a0)), (1, .one (.dat (.sl tLI) a1))], [], 0⟩ _ _
  refine HT.rg2 [oH] ⟨[(0, .one (.dat (.sl tLI) a0)), (1, .one (.dat (.sl tLI) a1))], [], 0⟩ hX (by kernel_rfl) allNil ?_
  refine HT.seq ?_
  refine HT.rg2 (oHs 5) ⟨[(0, .one (.dat (.sl tLI) a0)), (1, .one (.dat (.sl tLI) a1)), (10, bV ((lenI a0) != (lenI a1)))], [], 0⟩ hX (by kernel_rfl) allNil ?_
  rcases of_bif hr with ⟨hb1, hr⟩ | ⟨hb1, hr⟩
  · refine HT.cond1 rfl hb1 ?_
    refine HT.rg2 [oH] ⟨[(4, bV false)], [], 0⟩ hX (by kernel_rfl) allNil ?_
    have hr := of_some hr
    subst hr
    exact HT.ret (qThenR ⟨[bV false], [], [], by kernel_rfl, by kernel_rfl, rfl, by kernel_rfl, by kernel_rfl, trivial⟩)
  · refine HT.cond0 rfl hb1 ?_
    refine HT.skip (qThen ?_)
    refine HT.seq ?_
    refine HT.rg2 [oH] ⟨[(0, .one (.dat (.sl tLI) a0)), (1, .one (.dat (.sl tLI) a1)), (5, iV (0 : Int))], [], 0⟩ hX (by kernel_rfl) allNil ?_
    refine HT.block ?_
    obtain ⟨r3, hL15, hr⟩ := of_bind hr
    refine (Le.cv (s := ⟨[], [], [], false⟩) (own := []) (ps := [a0 = a0, a1 = a1, (0 : Int) = (0 : Int)]) (st' := ⟨[(0, .one (.dat (.sl tLI) a0)), (1, .one (.dat (.sl tLI) a1)), (5, iV (0 : Int))], [], 0⟩) hO (fun h => by cases h) (by kernel_rfl) ⟨rfl, rfl, rfl, trivial⟩).ht ?_
    refine HT.loopE (s := (0 : Int)) (fun (s2 : Int) => ⟨[(0, .one (.dat (.sl tLI) a0)), (1, .one (.dat (.sl tLI) a1)), (5, iV s2)], [], 0⟩) (fun (r3 : Unit ⊕ Unit) => match r3 with | .inl r4 => (.exit 0, ⟨[], [], 0⟩) | .inr r5 => (.ret, ⟨[(4, bV false)], [], 0⟩)) hL15 ?_ (fun s2 x6 hx7 hk8 => ?_)
    · rcases r3 with r4 | r5
      · refine (qBlockX (qThen ?_))
        refine HT.rg2 [oH] ⟨[(4, bV true)], [], 0⟩ hX (by kernel_rfl) allNil ?_
        have hr := of_some hr
        subst hr
        exact HT.ret ⟨[bV true], [], [], by kernel_rfl, by kernel_rfl, rfl, by kernel_rfl, by kernel_rfl, trivial⟩
      · have hr := of_some hr
        subst hr
        exact (qBlockR (qThenR ⟨[bV false], [], [], by kernel_rfl, by kernel_rfl, rfl, by kernel_rfl, by kernel_rfl, trivial⟩))
    · refine HT.seq ?_
      refine HT.rg2 (oHs 4) ⟨[(0, .one (.dat (.sl tLI) a0)), (1, .one (.dat (.sl tLI) a1)), (5, iV s2), (14, bV (decide (s2 < (lenI a0))))], [], 0⟩ hX (by kernel_rfl) allNil ?_
      rcases of_bif hx7 with ⟨hb9, hx7⟩ | ⟨hb9, hx7⟩
      · refine HT.cond1 rfl hb9 ?_
        refine HT.skip (qThen ?_)
        refine HT.seq ?_
        refine HT.block ?_
        obtain ⟨hg10, hx7⟩ := of_guard hx7
        obtain ⟨hg11, hx7⟩ := of_guard hx7
        obtain ⟨y12, hc13, hx7⟩ := of_bind hx7
        refine HT.dr2 8 [⟨oH, []⟩, ⟨oH, []⟩, ⟨oH, [0, 1]⟩, ⟨oH, [0, 1, 2]⟩, ⟨oH, []⟩, ⟨oH, []⟩, ⟨oH, [4, 5]⟩, ⟨oH, [4, 5, 6]⟩] [[0, 1, 2, 3, 4, 5, 6, 7], [0, 1, 2, 3, 4, 5, 6, 7, 8]] [⟨none, .call [.imm tLI, .imm tLI] [⟨false, .bool, y12⟩] []⟩, oH] ⟨[(0, .one (.dat (.sl tLI) a0)), (1, .one (.dat (.sl tLI) a1)), (5, iV s2), (26, bV (!y12))], [], 0⟩ hX (by kernel_rfl) (by kernel_rfl) (allCons hg10 (allCons hg11 (allCons (f17_ok hc13) allNil))) ?_
        rcases of_bif hx7 with ⟨hb14, hx7⟩ | ⟨hb14, hx7⟩
        · refine HT.cond1 rfl hb14 ?_
          refine HT.rg2 [oH] ⟨[(4, bV false)], [], 0⟩ hX (by kernel_rfl) allNil ?_
          have hx7 := of_some hx7
          subst hx7
          refine (Le.cv (s := ⟨[], [], [], false⟩) (own := []) (ps := [false = false]) (st' := ⟨[(4, bV false)], [], 0⟩) hO (fun h => by cases h) (by kernel_rfl) ⟨rfl, trivial⟩).ht ?_
          exact HT.ret (qBlockR (qThenR (qLoopR (hk8 (.inr ()) rfl))))
        · refine HT.cond0 rfl hb14 ?_
          refine HT.skip (qBlock (qThen ?_))
          have hx7 := of_some hx7
          subst hx7
          refine HT.rgL (oHs 3) ⟨[(0, .one (.dat (.sl tLI) a0)), (1, .one (.dat (.sl tLI) a1)), (5, iV (wadd .i64 s2 (1 : Int)))], [], 0⟩ hX (by kernel_rfl) allNil (qLoopN ⟨(wadd .i64 s2 (1 : Int)), rfl, Le.cv (s := ⟨[], [], [], false⟩) (own := []) (ps := [a0 = a0, a1 = a1, (wadd .i64 s2 (1 : Int)) = (wadd .i64 s2 (1 : Int))]) (st' := ⟨[(0, .one (.dat (.sl tLI) a0)), (1, .one (.dat (.sl tLI) a1)), (5, iV (wadd .i64 s2 (1 : Int)))], [], 0⟩) hO (fun h => by cases h) (by kernel_rfl) ⟨rfl, rfl, rfl, trivial⟩⟩)
      · refine HT.cond0 rfl hb9 ?_
        have hx7 := of_some hx7
        subst hx7
        refine (Le.cv (s := ⟨[], [], [], false⟩) (own := []) (ps := []) (st' := ⟨[], [], 0⟩) hO (fun h => by cases h) (by kernel_rfl) trivial).ht ?_
        exact HT.exit (qThenE (qLoopE (hk8 (.inl ()) rfl)))

noncomputable def laws_markFloat32S_B1  (s1 : Int × Int × List Nat) : Option ((Int × Int × List Nat) ⊕ ((Int × List Nat))) :=
  bif (decide (s1.2.1 < (lenI s1.2.2))) then
    guardP ((0 : Int) ≤ s1.2.1 ∧ s1.2.1 < lenI s1.2.2) (
      some (.inl ((wadd .i64 s1.1 (1 : Int)), (wadd .i64 s1.2.1 (1 : Int)), (List.set s1.2.2 (Int.toNat s1.2.1) (fofint .f32 s1.1)))))
  else
    some (.inr (s1.1, s1.2.2))

noncomputable def laws_markFloat32S (a0 : List Nat) (a1 : Int) : Option (Int × List Nat) :=
  (rounds (laws_markFloat32S_B1) (a1, (0 : Int), a0)).bind fun r3 =>
  guardP (List.length r3.2 = List.length a0) (
    some (r3.1, r3.2))

theorem f20_ok {a0 : List Nat} {a1 : Int} {r : Int × List Nat} (hr : laws_markFloat32S a0 a1 = some r) : CallOK Try.prog 20 [.own tLF a0, .imm tI a1] [⟨false, tI, r.1⟩] [⟨tLF, r.2⟩] := by
  unfold laws_markFloat32S at hr
  refine CallOK.of_body (ts := [(false, tI)]) Try.func20 rfl (by kernel_rfl) (Nat.le_of_ble_eq_true (by kernel_rfl)) fun cx hP hN hO hF => ?_
  have hO : cx.own.map Prod.fst = [0] := hO
  have hX := CxIs.mk hP hN hO
  have hF := hF rfl
  show HT cx ⟨[(0, aV 0), (1, iV a1)], [(0, .seq tF a0)], 1⟩ _ _
  refine HT.rg2 [oH] ⟨[(0, aV 0), (1, iV a1)], [(0, .seq tF a0)], 1⟩ hX (by kernel_rfl) allNil ?_
  refine HT.seq ?_
  refine HT.rg2 [oH] ⟨[(0, aV 0), (1, iV a1), (5, iV (0 : Int))], [(0, .seq tF a0)], 1⟩ hX (by kernel_rfl) allNil ?_
  refine HT.block ?_
  obtain ⟨r2, hL10, hr⟩ := of_bind hr
  refine (Le.cv (s := ⟨[(0, 0)], [], [], false⟩) (own := [0]) (ps := [a1 = a1, (0 : Int) = (0 : Int), a0 = a0]) (st' := ⟨[(0, aV 0), (1, iV a1), (5, iV (0 : Int))], [(0, .seq tF a0)], 1⟩) hO (fun h => by cases h) (by kernel_rfl) ⟨rfl, rfl, rfl, trivial⟩).ht ?_
  refine HT.loopE (s := (a1, (0 : Int), a0)) (fun (s1 : Int × Int × List Nat) => ⟨[(0, aV 0), (1, iV s1.1), (5, iV s1.2.1)], [(0, .seq tF s1.2.2)], 1⟩) (fun (r3 : (Int × List Nat)) => (.exit 0, ⟨[(1, iV r3.1)], [(0, .seq tF r3.2)], 1⟩)) hL10 ?_ (fun s1 x5 hx6 hk7 => ?_)
  · refine (qBlockX (qThen ?_))
    refine HT.rg2 (oHs 2) ⟨[(4, iV r2.1)], [(0, .seq tF r2.2)], 1⟩ hX (by kernel_rfl) allNil ?_
    obtain ⟨hg4, hr⟩ := of_guard hr
    have hr := of_some hr
    subst hr
    exact HT.ret ⟨[iV r2.1], [], [List.length r2.2 = List.length a0], by kernel_rfl, by kernel_rfl, rfl, by kernel_rfl, by kernel_rfl, ⟨hg4, trivial⟩⟩
  · refine HT.seq ?_
    refine HT.rg2 (oHs 4) ⟨[(0, aV 0), (1, iV s1.1), (5, iV s1.2.1), (9, bV (decide (s1.2.1 < (lenI s1.2.2))))], [(0, .seq tF s1.2.2)], 1⟩ hX (by kernel_rfl) allNil ?_
    rcases of_bif hx6 with ⟨hb8, hx6⟩ | ⟨hb8, hx6⟩
    · refine HT.cond1 rfl hb8 ?_
      refine HT.skip (qThen ?_)
      refine HT.seq ?_
      refine HT.block ?_
      obtain ⟨hg9, hx6⟩ := of_guard hx6
      refine HT.rg2 (oHs 6) ⟨[(0, aV 0), (1, iV s1.1), (5, iV s1.2.1)], [(0, .seq tF (List.set s1.2.2 (Int.toNat s1.2.1) (fofint .f32 s1.1)))], 1⟩ hX (by kernel_rfl) (allCons hg9 (allCons (natLt hg9) allNil)) ?_
      refine HT.rgL (oHs 3) ⟨[(0, aV 0), (1, iV (wadd .i64 s1.1 (1 : Int))), (5, iV s1.2.1)], [(0, .seq tF (List.set s1.2.2 (Int.toNat s1.2.1) (fofint .f32 s1.1)))], 1⟩ hX (by kernel_rfl) allNil (qBlock (qThen ?_))
      have hx6 := of_some hx6
      subst hx6
      refine HT.rgL (oHs 3) ⟨[(0, aV 0), (1, iV (wadd .i64 s1.1 (1 : Int))), (5, iV (wadd .i64 s1.2.1 (1 : Int)))], [(0, .seq tF (List.set s1.2.2 (Int.toNat s1.2.1) (fofint .f32 s1.1)))], 1⟩ hX (by kernel_rfl) allNil (qLoopN ⟨((wadd .i64 s1.1 (1 : Int)), (wadd .i64 s1.2.1 (1 : Int)), (List.set s1.2.2 (Int.toNat s1.2.1) (fofint .f32 s1.1))), rfl, Le.cv (s := ⟨[(0, 0)], [], [], false⟩) (own := [0]) (ps := [(wadd .i64 s1.1 (1 : Int)) = (wadd .i64 s1.1 (1 : Int)), (wadd .i64 s1.2.1 (1 : Int)) = (wadd .i64 s1.2.1 (1 : Int)), (List.set s1.2.2 (Int.toNat s1.2.1) (fofint .f32 s1.1)) = (List.set s1.2.2 (Int.toNat s1.2.1) (fofint .f32 s1.1))]) (st' := ⟨[(0, aV 0), (1, iV (wadd .i64 s1.1 (1 : Int))), (5, iV (wadd .i64 s1.2.1 (1 : Int)))], [(0, .seq tF (List.set s1.2.2 (Int.toNat s1.2.1) (fofint .f32 s1.1)))], 1⟩) hO (fun h => by cases h) (by kernel_rfl) ⟨rfl, rfl, rfl, trivial⟩⟩)
    · refine HT.cond0 rfl hb8 ?_
      have hx6 := of_some hx6
      subst hx6
      refine (Le.cv (s := ⟨[(0, 0)], [], [], false⟩) (own := [0]) (ps := [s1.1 = s1.1, s1.2.2 = s1.2.2]) (st' := ⟨[(1, iV s1.1)], [(0, .seq tF s1.2.2)], 1⟩) hO (fun h => by cases h) (by kernel_rfl) ⟨rfl, rfl, trivial⟩).ht ?_
      exact HT.exit (qThenE (qLoopE (hk7 (s1.1, s1.2.2) rfl)))

noncomputable def laws_markModel (a0 : Int × Int × List Nat × List Nat × List Nat) (a1 : Int) : Option (Int × (Int × Int × List Nat × List Nat × List Nat)) :=
  (laws_markFloat32S a0.2.2.1 a1).bind fun y1 =>
  (laws_markFloat32S a0.2.2.2.1 y1.1).bind fun y3 =>
  (laws_markFloat32S a0.2.2.2.2 y3.1).bind fun y5 =>
  guardP (List.length y1.2 = List.length a0.2.2.1) (
    guardP (List.length y3.2 = List.length a0.2.2.2.1) (
      guardP (List.length y5.2 = List.length a0.2.2.2.2) (
        some (y5.1, a0.1, a0.2.1, y1.2, y3.2, y5.2))))

theorem f18_ok {a0 : Int × Int × List Nat × List Nat × List Nat} {a1 : Int} {r : Int × (Int × Int × List Nat × List Nat × List Nat)} (hr : laws_markModel a0 a1 = some r) : CallOK Try.prog 18 [.own (.st (.pair tI (.pair tI (.pair tLF (.pair tLF tLF))))) a0, .imm tI a1] [⟨false, tI, r.1⟩] [⟨(.st (.pair tI (.pair tI (.pair tLF (.pair tLF tLF))))), r.2⟩] := by
  unfold laws_markModel at hr
  refine CallOK.of_body (ts := [(false, tI)]) Try.func18 rfl (by kernel_rfl) (Nat.le_of_ble_eq_true (by kernel_rfl)) fun cx hP hN hO hF => ?_
  have hO : cx.own.map Prod.fst = [0, 1, 2] := hO
  have hX := CxIs.mk hP hN hO
  have hF := hF rfl
  show HT cx ⟨[(0, .agg [iC a0.1, iC a0.2.1, .all 0, .all 1, .all 2]), (1, iV a1)], [(0, .seq tF a0.2.2.1), (1, .seq tF a0.2.2.2.1), (2, .seq tF a0.2.2.2.2)], 3⟩ _ _
  refine HT.rg2 (oHs 2) ⟨[(1, iV a1), (2, pV 3 0)], [(3, .box [iC a0.1, iC a0.2.1, .all 0, .all 1, .all 2]), (0, .seq tF a0.2.2.1), (1, .seq tF a0.2.2.2.1), (2, .seq tF a0.2.2.2.2)], 4⟩ hX (by kernel_rfl) allNil ?_
  obtain ⟨y1, hc2, hr⟩ := of_bind hr
  refine HT.rg2 [oH, oH, oH, ⟨none, .call [.own tLF, .imm tI] [⟨false, tI, y1.1⟩] [⟨tLF, y1.2⟩]⟩, oH] ⟨[(1, iV y1.1), (2, pV 3 0)], [(0, .seq tF y1.2), (3, .box [iC a0.1, iC a0.2.1, .all 0, .all 1, .all 2]), (1, .seq tF a0.2.2.2.1), (2, .seq tF a0.2.2.2.2)], 4⟩ hX (by kernel_rfl) (allCons (f20_ok hc2) allNil) ?_
  obtain ⟨y3, hc4, hr⟩ := of_bind hr
  refine HT.rg2 [oH, oH, oH, ⟨none, .call [.own tLF, .imm tI] [⟨false, tI, y3.1⟩] [⟨tLF, y3.2⟩]⟩, oH] ⟨[(1, iV y3.1), (2, pV 3 0)], [(1, .seq tF y3.2), (0, .seq tF y1.2), (3, .box [iC a0.1, iC a0.2.1, .all 0, .all 1, .all 2]), (2, .seq tF a0.2.2.2.2)], 4⟩ hX (by kernel_rfl) (allCons (f20_ok hc4) allNil) ?_
  obtain ⟨y5, hc6, hr⟩ := of_bind hr
  refine HT.rg2 [oH, oH, oH, ⟨none, .call [.own tLF, .imm tI] [⟨false, tI, y5.1⟩] [⟨tLF, y5.2⟩]⟩, oH] ⟨[(1, iV y5.1)], [(2, .seq tF y5.2), (1, .seq tF y3.2), (0, .seq tF y1.2)], 4⟩ hX (by kernel_rfl) (allCons (f20_ok hc6) allNil) ?_
  refine HT.rg2 (oHs 2) ⟨[(4, iV y5.1)], [(2, .seq tF y5.2), (1, .seq tF y3.2), (0, .seq tF y1.2)], 4⟩ hX (by kernel_rfl) allNil ?_
  obtain ⟨hg7, hr⟩ := of_guard hr
  obtain ⟨hg8, hr⟩ := of_guard hr
  obtain ⟨hg9, hr⟩ := of_guard hr
  have hr := of_some hr
  subst hr
  exact HT.ret ⟨[iV y5.1], [], [List.length y1.2 = List.length a0.2.2.1, List.length y3.2 = List.length a0.2.2.2.1, List.length y5.2 = List.length a0.2.2.2.2], by kernel_rfl, by kernel_rfl, rfl, by kernel_rfl, by kernel_rfl, ⟨hg7, hg8, hg9, trivial⟩⟩

noncomputable def laws_markInt64S_B1  (s1 : Int × Int × List Int) : Option ((Int × Int × List Int) ⊕ ((Int × List Int))) :=
  bif (decide (s1.2.1 < (lenI s1.2.2))) then
    guardP ((0 : Int) ≤ s1.2.1 ∧ s1.2.1 < lenI s1.2.2) (
      some (.inl ((wadd .i64 s1.1 (1 : Int)), (wadd .i64 s1.2.1 (1 : Int)), (List.set s1.2.2 (Int.toNat s1.2.1) s1.1))))
  else
    some (.inr (s1.1, s1.2.2))

noncomputable def laws_markInt64S (a0 : List Int) (a1 : Int) : Option (Int × List Int) :=
  (rounds (laws_markInt64S_B1) (a1, (0 : Int), a0)).bind fun r3 =>
  guardP (List.length r3.2 = List.length a0) (
    some (r3.1, r3.2))

theorem f19_ok {a0 : List Int} {a1 : Int} {r : Int × List Int} (hr : laws_markInt64S a0 a1 = some r) : CallOK Try.prog 19 [.own tLI a0, .imm tI a1] [⟨false, tI, r.1⟩] [⟨tLI, r.2⟩] := by
  unfold laws_markInt64S at hr
  refine CallOK.of_body (ts := [(false, tI)]) Try.func19 rfl (by kernel_rfl) (Nat.le_of_ble_eq_true (by kernel_rfl)) fun cx hP hN hO hF => ?_
  have hO : cx.own.map Prod.fst = [0] := hO
  have hX := CxIs.mk hP hN hO
  have hF := hF rfl
  show HT cx ⟨[(0, aV 0), (1, iV a1)], [(0, .seq tI a0)], 1⟩ _ _
  refine HT.rg2 [oH] ⟨[(0, aV 0), (1, iV a1)], [(0, .seq tI a0)], 1⟩ hX (by kernel_rfl) allNil ?_
  refine HT.seq ?_
  refine HT.rg2 [oH] ⟨[(0, aV 0), (1, iV a1), (5, iV (0 : Int))], [(0, .seq tI a0)], 1⟩ hX (by kernel_rfl) allNil ?_
  refine HT.block ?_
  obtain ⟨r2, hL10, hr⟩ := of_bind hr
  refine (Le.cv (s := ⟨[(0, 0)], [], [], false⟩) (own := [0]) (ps := [a1 = a1, (0 : Int) = (0 : Int), a0 = a0]) (st' := ⟨[(0, aV 0), (1, iV a1), (5, iV (0 : Int))], [(0, .seq tI a0)], 1⟩) hO (fun h => by cases h) (by kernel_rfl) ⟨rfl, rfl, rfl, trivial⟩).ht ?_
  refine HT.loopE (s := (a1, (0 : Int), a0)) (fun (s1 : Int × Int × List Int) => ⟨[(0, aV 0), (1, iV s1.1), (5, iV s1.2.1)], [(0, .seq tI s1.2.2)], 1⟩) (fun (r3 : (Int × List Int)) => (.exit 0, ⟨[(1, iV r3.1)], [(0, .seq tI r3.2)], 1⟩)) hL10 ?_ (fun s1 x5 hx6 hk7 => ?_)
  · refine (qBlockX (qThen ?_))
    refine HT.rg2 (oHs 2) ⟨[(4, iV r2.1)], [(0, .seq tI r2.2)], 1⟩ hX (by kernel_rfl) allNil ?_
    obtain ⟨hg4, hr⟩ := of_guard hr
    have hr := of_some hr
    subst hr
    exact HT.ret ⟨[iV r2.1], [], [List.length r2.2 = List.length a0], by kernel_rfl, by kernel_rfl, rfl, by kernel_rfl, by kernel_rfl, ⟨hg4, trivial⟩⟩
  · refine HT.seq ?_
    refine HT.rg2 (oHs 4) ⟨[(0, aV 0), (1, iV s1.1), (5, iV s1.2.1), (9, bV (decide (s1.2.1 < (lenI s1.2.2))))], [(0, .seq tI s1.2.2)], 1⟩ hX (by kernel_rfl) allNil ?_
    rcases of_bif hx6 with ⟨hb8, hx6⟩ | ⟨hb8, hx6⟩
    · refine HT.cond1 rfl hb8 ?_
      refine HT.skip (qThen ?_)
      refine HT.seq ?_
      refine HT.block ?_
      obtain ⟨hg9, hx6⟩ := of_guard hx6
      refine HT.rg2 (oHs 5) ⟨[(0, aV 0), (1, iV s1.1), (5, iV s1.2.1)], [(0, .seq tI (List.set s1.2.2 (Int.toNat s1.2.1) s1.1))], 1⟩ hX (by kernel_rfl) (allCons hg9 (allCons (natLt hg9) allNil)) ?_
      refine HT.rgL (oHs 3) ⟨[(0, aV 0), (1, iV (wadd .i64 s1.1 (1 : Int))), (5, iV s1.2.1)], [(0, .seq tI (List.set s1.2.2 (Int.toNat s1.2.1) s1.1))], 1⟩ hX (by kernel_rfl) allNil (qBlock (qThen ?_))
      have hx6 := of_some hx6
      subst hx6
      refine HT.rgL (oHs 3) ⟨[(0, aV 0), (1, iV (wadd .i64 s1.1 (1 : Int))), (5, iV (wadd .i64 s1.2.1 (1 : Int)))], [(0, .seq tI (List.set s1.2.2 (Int.toNat s1.2.1) s1.1))], 1⟩ hX (by kernel_rfl) allNil (qLoopN ⟨((wadd .i64 s1.1 (1 : Int)), (wadd .i64 s1.2.1 (1 : Int)), (List.set s1.2.2 (Int.toNat s1.2.1) s1.1)), rfl, Le.cv (s := ⟨[(0, 0)], [], [], false⟩) (own := [0]) (ps := [(wadd .i64 s1.1 (1 : Int)) = (wadd .i64 s1.1 (1 : Int)), (wadd .i64 s1.2.1 (1 : Int)) = (wadd .i64 s1.2.1 (1 : Int)), (List.set s1.2.2 (Int.toNat s1.2.1) s1.1) = (List.set s1.2.2 (Int.toNat s1.2.1) s1.1)]) (st' := ⟨[(0, aV 0), (1, iV (wadd .i64 s1.1 (1 : Int))), (5, iV (wadd .i64 s1.2.1 (1 : Int)))], [(0, .seq tI (List.set s1.2.2 (Int.toNat s1.2.1) s1.1))], 1⟩) hO (fun h => by cases h) (by kernel_rfl) ⟨rfl, rfl, rfl, trivial⟩⟩)
    · refine HT.cond0 rfl hb8 ?_
      have hx6 := of_some hx6
      subst hx6
      refine (Le.cv (s := ⟨[(0, 0)], [], [], false⟩) (own := [0]) (ps := [s1.1 = s1.1, s1.2.2 = s1.2.2]) (st' := ⟨[(1, iV s1.1)], [(0, .seq tI s1.2.2)], 1⟩) hO (fun h => by cases h) (by kernel_rfl) ⟨rfl, rfl, trivial⟩).ht ?_
      exact HT.exit (qThenE (qLoopE (hk7 (s1.1, s1.2.2) rfl)))

noncomputable def laws_markInt64SS_B1  (s1 : Int × Int × List (List Int)) : Option ((Int × Int × List (List Int)) ⊕ ((Int × List (List Int)))) :=
  bif (decide (s1.2.1 < (lenI s1.2.2))) then
    guardP ((0 : Int) ≤ s1.2.1 ∧ s1.2.1 < lenI s1.2.2) (
      (laws_markInt64S (List.getD s1.2.2 (Int.toNat s1.2.1) ([] : List Int)) s1.1).bind fun y10 =>
      some (.inl (y10.1, (wadd .i64 s1.2.1 (1 : Int)), (List.set s1.2.2 (Int.toNat s1.2.1) y10.2))))
  else
    some (.inr (s1.1, s1.2.2))

noncomputable def laws_markInt64SS (a0 : List (List Int)) (a1 : Int) : Option (Int × List (List Int)) :=
  (rounds (laws_markInt64SS_B1) (a1, (0 : Int), a0)).bind fun r3 =>
  guardP (ShapeEq (.own tI) a0 r3.2) (
    some (r3.1, r3.2))

theorem f31_ok {a0 : List (List Int)} {a1 : Int} {r : Int × List (List Int)} (hr : laws_markInt64SS a0 a1 = some r) : CallOK Try.prog 31 [.own (.sl (.own tI)) a0, .imm tI a1] [⟨false, tI, r.1⟩] [⟨(.sl (.own tI)), r.2⟩] := by
  unfold laws_markInt64SS at hr
  refine CallOK.of_body (ts := [(false, tI)]) Try.func31 rfl (by kernel_rfl) (Nat.le_of_ble_eq_true (by kernel_rfl)) fun cx hP hN hO hF => ?_
  have hO : cx.own.map Prod.fst = [0] := hO
  have hX := CxIs.mk hP hN hO
  have hF := hF rfl
  show HT cx ⟨[(0, aV 0), (1, iV a1)], [(0, .seq (.own tI) a0)], 1⟩ _ _
  refine HT.rg2 [oH] ⟨[(0, aV 0), (1, iV a1)], [(0, .seq (.own tI) a0)], 1⟩ hX (by kernel_rfl) allNil ?_
  refine HT.seq ?_
  refine HT.rg2 [oH] ⟨[(0, aV 0), (1, iV a1), (5, iV (0 : Int))], [(0, .seq (.own tI) a0)], 1⟩ hX (by kernel_rfl) allNil ?_
  refine HT.block ?_
  obtain ⟨r2, hL12, hr⟩ := of_bind hr
  refine (Le.cv (s := ⟨[(0, 0)], [], [], false⟩) (own := [0]) (ps := [a1 = a1, (0 : Int) = (0 : Int), a0 = a0]) (st' := ⟨[(0, aV 0), (1, iV a1), (5, iV (0 : Int))], [(0, .seq (.own tI) a0)], 1⟩) hO (fun h => by cases h) (by kernel_rfl) ⟨rfl, rfl, rfl, trivial⟩).ht ?_
  refine HT.loopE (s := (a1, (0 : Int), a0)) (fun (s1 : Int × Int × List (List Int)) => ⟨[(0, aV 0), (1, iV s1.1), (5, iV s1.2.1)], [(0, .seq (.own tI) s1.2.2)], 1⟩) (fun (r3 : (Int × List (List Int))) => (.exit 0, ⟨[(1, iV r3.1)], [(0, .seq (.own tI) r3.2)], 1⟩)) hL12 ?_ (fun s1 x5 hx6 hk7 => ?_)
  · refine (qBlockX (qThen ?_))
    refine HT.rg2 (oHs 2) ⟨[(4, iV r2.1)], [(0, .seq (.own tI) r2.2)], 1⟩ hX (by kernel_rfl) allNil ?_
    obtain ⟨hg4, hr⟩ := of_guard hr
    have hr := of_some hr
    subst hr
    exact HT.ret ⟨[iV r2.1], [], [ShapeEq (.own tI) a0 r2.2], by kernel_rfl, by kernel_rfl, rfl, by kernel_rfl, by kernel_rfl, ⟨hg4, trivial⟩⟩
  · refine HT.seq ?_
    refine HT.rg2 (oHs 4) ⟨[(0, aV 0), (1, iV s1.1), (5, iV s1.2.1), (9, bV (decide (s1.2.1 < (lenI s1.2.2))))], [(0, .seq (.own tI) s1.2.2)], 1⟩ hX (by kernel_rfl) allNil ?_
    rcases of_bif hx6 with ⟨hb8, hx6⟩ | ⟨hb8, hx6⟩
    · refine HT.cond1 rfl hb8 ?_
      refine HT.skip (qThen ?_)
      refine HT.seq ?_
      refine HT.block ?_
      obtain ⟨hg9, hx6⟩ := of_guard hx6
      obtain ⟨y10, hc11, hx6⟩ := of_bind hx6
      refine HT.regC (rs := [oH, oH, oH, ⟨none, .opn⟩, oH, ⟨none, .call [.own tLI, .imm tI] [⟨false, tI, y10.1⟩] [⟨tLI, y10.2⟩]⟩, oH]) ⟨[(1, iV y10.1), (17, iV y10.1), (16, iV s1.1), (15, aV 1), (14, .one (.elp 0 (Int.toNat s1.2.1) 1 0)), (13, iV s1.2.1), (12, aV 0), (0, aV 0), (1, iV s1.1), (5, iV s1.2.1), (9, bV (decide (s1.2.1 < (lenI s1.2.2))))], [(1, .seq tI y10.2), (0, .opn (.own tI) s1.2.2 (Int.toNat s1.2.1) [.all 1] [1]), (1, .seq tI (List.getD s1.2.2 (Int.toNat s1.2.1) ([] : List Int))), (0, .seq (.own tI) s1.2.2)], 2⟩ hP hN (by kernel_rfl) (allCons hg9 (allCons (natLt hg9) (allCons (f19_ok hc11) allNil))) (Le.close (own := [0]) 0 (st' := ⟨[(1, iV y10.1), (17, iV y10.1), (16, iV s1.1), (15, aV 1), (14, .one (.elp 0 (Int.toNat s1.2.1) 1 0)), (13, iV s1.2.1), (12, aV 0), (0, aV 0), (1, iV s1.1), (5, iV s1.2.1), (9, bV (decide (s1.2.1 < (lenI s1.2.2))))], [(0, .seq (.own tI) (List.set s1.2.2 (Int.toNat s1.2.1) y10.2)), (1, .gone)], 2⟩) hO (by kernel_rfl)) (qBlock (qThen ?_))
      have hx6 := of_some hx6
      subst hx6
      refine HT.rgL (oHs 3) ⟨[(0, aV 0), (1, iV y10.1), (5, iV (wadd .i64 s1.2.1 (1 : Int)))], [(0, .seq (.own tI) (List.set s1.2.2 (Int.toNat s1.2.1) y10.2))], 2⟩ hX (by kernel_rfl) allNil (qLoopN ⟨(y10.1, (wadd .i64 s1.2.1 (1 : Int)), (List.set s1.2.2 (Int.toNat s1.2.1) y10.2)), rfl, Le.cv (s := ⟨[(0, 0)], [], [], false⟩) (own := [0]) (ps := [y10.1 = y10.1, (wadd .i64 s1.2.1 (1 : Int)) = (wadd .i64 s1.2.1 (1 : Int)), (List.set s1.2.2 (Int.toNat s1.2.1) y10.2) = (List.set s1.2.2 (Int.toNat s1.2.1) y10.2)]) (st' := ⟨[(0, aV 0), (1, iV y10.1), (5, iV (wadd .i64 s1.2.1 (1 : Int)))], [(0, .seq (.own tI) (List.set s1.2.2 (Int.toNat s1.2.1) y10.2))], 1⟩) hO (fun h => by cases h) (by kernel_rfl) ⟨rfl, rfl, rfl, trivial⟩⟩)
    · refine HT.cond0 rfl hb8 ?_
      have hx6 := of_some hx6
      subst hx6
      refine (Le.cv (s := ⟨[(0, 0)], [], [], false⟩) (own := [0]) (ps := [s1.1 = s1.1, s1.2.2 = s1.2.2]) (st' := ⟨[(1, iV s1.1)], [(0, .seq (.own tI) s1.2.2)], 1⟩) hO (fun h => by cases h) (by kernel_rfl) ⟨rfl, rfl, trivial⟩).ht ?_
      exact HT.exit (qThenE (qLoopE (hk7 (s1.1, s1.2.2) rfl)))

noncomputable def laws_heldFloat32S_B1 (a0 : List Nat) (s1 : Int × Int) : Option ((Int × Int) ⊕ (Int ⊕ Unit)) :=
  bif (decide (s1.2 < (lenI a0))) then
    guardP ((0 : Int) ≤ s1.2 ∧ s1.2 < lenI a0) (
      bif (!(feq .f32 (List.getD a0 (Int.toNat s1.2) (0 : Nat)) (fofint .f32 s1.1))) then
        some (.inr (.inr ()))
      else
        some (.inl ((wadd .i64 s1.1 (1 : Int)), (wadd .i64 s1.2 (1 : Int)))))
  else
    some (.inr (.inl s1.1))

noncomputable def laws_heldFloat32S (a0 : List Nat) (a1 : Int) : Option (Int) :=
  (rounds (laws_heldFloat32S_B1 a0) (a1, (0 : Int))).bind fun r2 => match r2 with
    | .inl r3 =>
      some r3
    | .inr r4 =>
      some (-1 : Int)

theorem f21_ok {a0 : List Nat} {a1 : Int} {r : Int} (hr : laws_heldFloat32S a0 a1 = some r) : CallOK Try.prog 21 [.imm tLF a0, .imm tI a1] [⟨false, tI, r⟩] [] := by
  unfold laws_heldFloat32S at hr
  refine CallOK.of_body (ts := [(false, tI)]) Try.func21 rfl (by kernel_rfl) (Nat.le_of_ble_eq_true (by kernel_rfl)) fun cx hP hN hO hF => ?_
  have hO : cx.own.map Prod.fst = [] := hO
  have hX := CxIs.mk hP hN hO
  have hF := hF rfl
  show HT cx ⟨[(0, lV a0), (1, iV a1)], [], 0⟩ _ _
  refine HT.rg2 [oH] ⟨[(0, lV a0), (1, iV a1)], [], 0⟩ hX (by kernel_rfl) allNil ?_
  refine HT.seq ?_
  refine HT.rg2 [oH] ⟨[(0, lV a0), (1, iV a1), (5, iV (0 : Int))], [], 0⟩ hX (by kernel_rfl) allNil ?_
  refine HT.block ?_
  obtain ⟨r2, hL11, hr⟩ := of_bind hr
  refine (Le.cv (s := ⟨[], [], [], false⟩) (own := []) (ps := [a0 = a0, a1 = a1, (0 : Int) = (0 : Int)]) (st' := ⟨[(0, lV a0), (1, iV a1), (5, iV (0 : Int))], [], 0⟩) hO (fun h => by cases h) (by kernel_rfl) ⟨rfl, rfl, rfl, trivial⟩).ht ?_
  refine HT.loopE (s := (a1, (0 : Int))) (fun (s1 : Int × Int) => ⟨[(0, lV a0), (1, iV s1.1), (5, iV s1.2)], [], 0⟩) (fun (r2 : Int ⊕ Unit) => match r2 with | .inl r3 => (.exit 0, ⟨[(1, iV r3)], [], 0⟩) | .inr r4 => (.ret, ⟨[(4, iV (-1 : Int))], [], 0⟩)) hL11 ?_ (fun s1 x5 hx6 hk7 => ?_)
  · rcases r2 with r3 | r4
    · refine (qBlockX (qThen ?_))
      refine HT.rg2 (oHs 2) ⟨[(4, iV r3)], [], 0⟩ hX (by kernel_rfl) allNil ?_
      have hr := of_some hr
      subst hr
      exact HT.ret ⟨[iV r3], [], [], by kernel_rfl, by kernel_rfl, rfl, by kernel_rfl, by kernel_rfl, trivial⟩
    · have hr := of_some hr
      subst hr
      exact (qBlockR (qThenR ⟨[iV (-1 : Int)], [], [], by kernel_rfl, by kernel_rfl, rfl, by kernel_rfl, by kernel_rfl, trivial⟩))
  · refine HT.seq ?_
    refine HT.rg2 (oHs 4) ⟨[(0, lV a0), (1, iV s1.1), (5, iV s1.2), (9, bV (decide (s1.2 < (lenI a0))))], [], 0⟩ hX (by kernel_rfl) allNil ?_
    rcases of_bif hx6 with ⟨hb8, hx6⟩ | ⟨hb8, hx6⟩
    · refine HT.cond1 rfl hb8 ?_
      refine HT.skip (qThen ?_)
      refine HT.seq ?_
      refine HT.block ?_
      refine HT.seq ?_
      obtain ⟨hg9, hx6⟩ := of_guard hx6
      refine HT.rg2 (oHs 7) ⟨[(0, lV a0), (1, iV s1.1), (5, iV s1.2), (18, bV (!(feq .f32 (List.getD a0 (Int.toNat s1.2) (0 : Nat)) (fofint .f32 s1.1))))], [], 0⟩ hX (by kernel_rfl) (allCons hg9 allNil) ?_
      rcases of_bif hx6 with ⟨hb10, hx6⟩ | ⟨hb10, hx6⟩
      · refine HT.cond1 rfl hb10 ?_
        refine HT.rg2 [oH] ⟨[(4, iV (-1 : Int))], [], 0⟩ hX (by kernel_rfl) allNil ?_
        have hx6 := of_some hx6
        subst hx6
        refine (Le.cv (s := ⟨[], [], [], false⟩) (own := []) (ps := [(-1 : Int) = (-1 : Int)]) (st' := ⟨[(4, iV (-1 : Int))], [], 0⟩) hO (fun h => by cases h) (by kernel_rfl) ⟨rfl, trivial⟩).ht ?_
        exact HT.ret (qThenR (qBlockR (qThenR (qLoopR (hk7 (.inr ()) rfl)))))
      · refine HT.cond0 rfl hb10 ?_
        refine HT.skip (qThen ?_)
        refine HT.rgL (oHs 3) ⟨[(0, lV a0), (1, iV (wadd .i64 s1.1 (1 : Int))), (5, iV s1.2)], [], 0⟩ hX (by kernel_rfl) allNil (qBlock (qThen ?_))
        have hx6 := of_some hx6
        subst hx6
        refine HT.rgL (oHs 3) ⟨[(0, lV a0), (1, iV (wadd .i64 s1.1 (1 : Int))), (5, iV (wadd .i64 s1.2 (1 : Int)))], [], 0⟩ hX (by kernel_rfl) allNil (qLoopN ⟨((wadd .i64 s1.1 (1 : Int)), (wadd .i64 s1.2 (1 : Int))), rfl, Le.cv (s := ⟨[], [], [], false⟩) (own := []) (ps := [a0 = a0, (wadd .i64 s1.1 (1 : Int)) = (wadd .i64 s1.1 (1 : Int)), (wadd .i64 s1.2 (1 : Int)) = (wadd .i64 s1.2 (1 : Int))]) (st' := ⟨[(0, lV a0), (1, iV (wadd .i64 s1.1 (1 : Int))), (5, iV (wadd .i64 s1.2 (1 : Int)))], [], 0⟩) hO (fun h => by cases h) (by kernel_rfl) ⟨rfl, rfl, rfl, trivial⟩⟩)
    · refine HT.cond0 rfl hb8 ?_
      have hx6 := of_some hx6
      subst hx6
      refine (Le.cv (s := ⟨[], [], [], false⟩) (own := []) (ps := [s1.1 = s1.1]) (st' := ⟨[(1, iV s1.1)], [], 0⟩) hO (fun h => by cases h) (by kernel_rfl) ⟨rfl, trivial⟩).ht ?_
      exact HT.exit (qThenE (qLoopE (hk7 (.inl s1.1) rfl)))

noncomputable def laws_FnExactLikesShared (a0 : Int × Int × List Nat × List Nat × List Nat) (a1 : List (List Int)) (a2 : Int) : Option (Bool) :=
  (laws_szModel (a0.1, a0.2.1, a0.2.2.1, a0.2.2.2.1, a0.2.2.2.2) (1048576 : Int)).bind fun y1 =>
  bif (decide (y1 < (0 : Int))) then
    some true
  else
    (laws_szInt64SS a1 y1).bind fun y4 =>
    bif (decide (y4 < (0 : Int))) then
      some true
    else
      (laws_toModel (a0.1, a0.2.1, a0.2.2.1, a0.2.2.2.1, a0.2.2.2.2)).bind fun y7 =>
      (laws_toInt64SS a1).bind fun y9 =>
      (spec_LikesShared (y7.1, y7.2.1, y7.2.2.1, y7.2.2.2.1, y7.2.2.2.2) y9 a2).bind fun y11 =>
      (laws_toModel (a0.1, a0.2.1, a0.2.2.1, a0.2.2.2.1, a0.2.2.2.2)).bind fun y13 =>
      (laws_toInt64SS a1).bind fun y15 =>
      (impl_LikesShared (y13.1, y13.2.1, y13.2.2.1, y13.2.2.2.1, y13.2.2.2.2) y15 a2).bind fun y17 =>
      (show Option (Bool) from
        (laws_eqFloat32S y17.1 y11.1).bind fun y68 =>
        bif (!y68) then
          some true
        else
          some (y17.2 != y11.2)).bind fun v19 =>
      bif v19 then
        some false
      else
        (laws_toModel (a0.1, a0.2.1, a0.2.2.1, a0.2.2.2.1, a0.2.2.2.2)).bind fun y23 =>
        (laws_eqModel (y13.1, y13.2.1, y13.2.2.1, y13.2.2.2.1, y13.2.2.2.2) (y23.1, y23.2.1, y23.2.2.1, y23.2.2.2.1, y23.2.2.2.2)).bind fun y25 =>
        bif (!y25) then
          some false
        else
          (laws_toInt64SS a1).bind fun y28 =>
          (laws_eqInt64SS y15 y28).bind fun y30 =>
          bif (!y30) then
            some false
          else
            (laws_markModel (y13.1, y13.2.1, y13.2.2.1, y13.2.2.2.1, y13.2.2.2.2) (1 : Int)).bind fun y33 =>
            (laws_markInt64SS y15 y33.1).bind fun y35 =>
            (show Option (Bool) from
              bif (decide (y35.1 < (0 : Int))) then
                some true
              else
                (laws_eqFloat32S y17.1 y11.1).bind fun y65 =>
                bif (!y65) then
                  some true
                else
                  some (y17.2 != y11.2)).bind fun v37 =>
            bif v37 then
              some false
            else
              (laws_markFloat32S y17.1 (1 : Int)).bind fun y41 =>
              (laws_heldFloat32S y41.2 (1 : Int)).bind fun y43 =>
              bif (decide (y43 < (0 : Int))) then
                some false
              else
                bif (y43 != y41.1) then
                  some false
                else
                  (laws_toModel (a0.1, a0.2.1, a0.2.2.1, a0.2.2.2.1, a0.2.2.2.2)).bind fun y47 =>
                  (laws_toInt64SS a1).bind fun y49 =>
                  (impl_LikesShared (y47.1, y47.2.1, y47.2.2.1, y47.2.2.2.1, y47.2.2.2.2) y49 a2).bind fun y51 =>
                  (show Option (Bool) from
                    (laws_eqFloat32S y51.1 y11.1).bind fun y61 =>
                    bif (!y61) then
                      some true
                    else
                      some (y51.2 != y11.2)).bind fun v53 =>
                  bif v53 then
                    some false
                  else
                    (laws_heldFloat32S y41.2 (1 : Int)).bind fun y57 =>
                    bif (decide (y57 < (0 : Int))) then
                      some false
                    else
                      bif (y57 != y41.1) then
                        some false
                      else
                        some true

theorem f8_ok {a0 : Int × Int × List Nat × List Nat × List Nat} {a1 : List (List Int)} {a2 : Int} {r : Bool} (hr : laws_FnExactLikesShared a0 a1 a2 = some r) : CallOK Try.prog 8 [.imm (.st (.pair tI (.pair tI (.pair tLF (.pair tLF tLF))))) a0, .imm (.sl tLI) a1, .imm tI a2] [⟨false, .bool, r⟩] [] := by
  unfold laws_FnExactLikesShared at hr
  refine CallOK.of_body (ts := [(false, .bool)]) Try.func8 rfl (by kernel_rfl) (Nat.le_of_ble_eq_true (by kernel_rfl)) fun cx hP hN hO hF => ?_
  have hO : cx.own.map Prod.fst = [] := hO
  have hX := CxIs.mk hP hN hO
  have hF := hF rfl
  show HT cx ⟨[(0, .agg [iC a0.1, iC a0.2.1, lC a0.2.2.1, lC a0.2.2.2.1, lC a0.2.2.2.2]), (1, .one (.dat (.sl tLI) a1)), (2, iV a2)], [], 0⟩ _ _
  refine HT.rg2 (oHs 2) ⟨[(1, .one (.dat (.sl tLI) a1)), (2, iV a2), (3, pV 0 0)], [(0, .box [iC a0.1, iC a0.2.1, lC a0.2.2.1, lC a0.2.2.2.1, lC a0.2.2.2.2])], 1⟩ hX (by kernel_rfl) allNil ?_
  refine HT.rg2 [oH] ⟨[(1, .one (.dat (.sl tLI) a1)), (2, iV a2), (3, pV 0 0), (7, iV (1048576 : Int))], [(0, .box [iC a0.1, iC a0.2.1, lC a0.2.2.1, lC a0.2.2.2.1, lC a0.2.2.2.2])], 1⟩ hX (by kernel_rfl) allNil ?_
  obtain ⟨y1, hc2, hr⟩ := of_bind hr
  refine HT.rg2 [oH, oH, ⟨none, .call [.imm (.st (.pair tI (.pair tI (.pair tLF (.pair tLF tLF))))), .imm tI] [⟨false, tI, y1⟩] []⟩, oH] ⟨[(1, .one (.dat (.sl tLI) a1)), (2, iV a2), (3, pV 0 0), (7, iV y1)], [(0, .box [iC a0.1, iC a0.2.1, lC a0.2.2.1, lC a0.2.2.2.1, lC a0.2.2.2.2])], 1⟩ hX (by kernel_rfl) (allCons (f10_ok hc2) allNil) ?_
  refine HT.seq ?_
  refine HT.rg2 (oHs 2) ⟨[(1, .one (.dat (.sl tLI) a1)), (2, iV a2), (3, pV 0 0), (7, iV y1), (23, bV (decide (y1 < (0 : Int))))], [(0, .box [iC a0.1, iC a0.2.1, lC a0.2.2.1, lC a0.2.2.2.1, lC a0.2.2.2.2])], 1⟩ hX (by kernel_rfl) allNil ?_
  rcases of_bif hr with ⟨hb3, hr⟩ | ⟨hb3, hr⟩
  · refine HT.cond1 rfl hb3 ?_
    refine HT.rg2 [oH] ⟨[(6, bV true)], [], 1⟩ hX (by kernel_rfl) allNil ?_
    have hr := of_some hr
    subst hr
    exact HT.ret (qThenR ⟨[bV true], [], [], by kernel_rfl, by kernel_rfl, rfl, by kernel_rfl, by kernel_rfl, trivial⟩)
  · refine HT.cond0 rfl hb3 ?_
    refine HT.skip (qThen ?_)
    obtain ⟨y4, hc5, hr⟩ := of_bind hr
    refine HT.rg2 [oH, oH, ⟨none, .call [.imm (.sl tLI), .imm tI] [⟨false, tI, y4⟩] []⟩, oH] ⟨[(1, .one (.dat (.sl tLI) a1)), (2, iV a2), (3, pV 0 0), (7, iV y4)], [(0, .box [iC a0.1, iC a0.2.1, lC a0.2.2.1, lC a0.2.2.2.1, lC a0.2.2.2.2])], 1⟩ hX (by kernel_rfl) (allCons (f26_ok hc5) allNil) ?_
    refine HT.seq ?_
    refine HT.rg2 (oHs 2) ⟨[(1, .one (.dat (.sl tLI) a1)), (2, iV a2), (3, pV 0 0), (28, bV (decide (y4 < (0 : Int))))], [(0, .box [iC a0.1, iC a0.2.1, lC a0.2.2.1, lC a0.2.2.2.1, lC a0.2.2.2.2])], 1⟩ hX (by kernel_rfl) allNil ?_
    rcases of_bif hr with ⟨hb6, hr⟩ | ⟨hb6, hr⟩
    · refine HT.cond1 rfl hb6 ?_
      refine HT.rg2 [oH] ⟨[(6, bV true)], [], 1⟩ hX (by kernel_rfl) allNil ?_
      have hr := of_some hr
      subst hr
      exact HT.ret (qThenR ⟨[bV true], [], [], by kernel_rfl, by kernel_rfl, rfl, by kernel_rfl, by kernel_rfl, trivial⟩)
    · refine HT.cond0 rfl hb6 ?_
      refine HT.skip (qThen ?_)
      obtain ⟨y7, hc8, hr⟩ := of_bind hr
      obtain ⟨y9, hc10, hr⟩ := of_bind hr
      obtain ⟨y11, hc12, hr⟩ := of_bind hr
      refine HT.rg2 [oH, ⟨none, .call [.imm (.st (.pair tI (.pair tI (.pair tLF (.pair tLF tLF)))))] [⟨true, (.st (.pair tI (.pair tI (.pair tLF (.pair tLF tLF))))), y7⟩] []⟩, oH, ⟨none, .call [.imm (.sl tLI)] [⟨true, (.sl (.own tI)), y9⟩] []⟩, oH, ⟨none, .call [.imm (.st (.pair tI (.pair tI (.pair tLF (.pair tLF tLF))))), .imm (.sl tLI), .imm tI] [⟨true, tLF, y11.1⟩, ⟨false, .bool, y11.2⟩] []⟩, oH, oH, oH, oH, oH] ⟨[(1, .one (.dat (.sl tLI) a1)), (2, iV a2), (3, pV 0 0), (8, aV 5), (9, bV y11.2)], [(5, .seq tF y11.1), (0, .box [iC a0.1, iC a0.2.1, lC a0.2.2.1, lC a0.2.2.2.1, lC a0.2.2.2.2])], 6⟩ hX (by kernel_rfl) (allCons (f12_ok hc8) (allCons (f28_ok hc10) (allCons (f35_ok hc12) allNil))) ?_
      obtain ⟨y13, hc14, hr⟩ := of_bind hr
      refine HT.rg2 [oH, ⟨none, .call [.imm (.st (.pair tI (.pair tI (.pair tLF (.pair tLF tLF)))))] [⟨true, (.st (.pair tI (.pair tI (.pair tLF (.pair tLF tLF))))), y13⟩] []⟩, oH, oH] ⟨[(1, .one (.dat (.sl tLI) a1)), (2, iV a2), (3, pV 0 0), (8, aV 5), (9, bV y11.2), (10, pV 9 0)], [(9, .box [iC y13.1, iC y13.2.1, .all 6, .all 7, .all 8]), (6, .seq tF y13.2.2.1), (7, .seq tF y13.2.2.2.1), (8, .seq tF y13.2.2.2.2), (5, .seq tF y11.1), (0, .box [iC a0.1, iC a0.2.1, lC a0.2.2.1, lC a0.2.2.2.1, lC a0.2.2.2.2])], 10⟩ hX (by kernel_rfl) (allCons (f12_ok hc14) allNil) ?_
      obtain ⟨y15, hc16, hr⟩ := of_bind hr
      refine HT.rg2 [oH, ⟨none, .call [.imm (.sl tLI)] [⟨true, (.sl (.own tI)), y15⟩] []⟩, oH] ⟨[(1, .one (.dat (.sl tLI) a1)), (2, iV a2), (3, pV 0 0), (8, aV 5), (9, bV y11.2), (10, pV 9 0), (11, aV 10)], [(10, .seq (.own tI) y15), (9, .box [iC y13.1, iC y13.2.1, .all 6, .all 7, .all 8]), (6, .seq tF y13.2.2.1), (7, .seq tF y13.2.2.2.1), (8, .seq tF y13.2.2.2.2), (5, .seq tF y11.1), (0, .box [iC a0.1, iC a0.2.1, lC a0.2.2.1, lC a0.2.2.2.1, lC a0.2.2.2.2])], 11⟩ hX (by kernel_rfl) (allCons (f28_ok hc16) allNil) ?_
      obtain ⟨y17, hc18, hr⟩ := of_bind hr
      refine HT.rg2 [oH, oH, oH, ⟨none, .call [.imm (.st (.pair tI (.pair tI (.pair tLF (.pair tLF tLF))))), .imm (.sl tLI), .imm tI] [⟨true, tLF, y17.1⟩, ⟨false, .bool, y17.2⟩] []⟩, oH, oH, oH, oH, oH] ⟨[(1, .one (.dat (.sl tLI) a1)), (2, iV a2), (3, pV 0 0), (8, aV 5), (9, bV y11.2), (10, pV 9 0), (11, aV 10), (12, aV 11), (13, bV y17.2)], [(11, .seq tF y17.1), (10, .seq (.own tI) y15), (9, .box [iC y13.1, iC y13.2.1, .all 6, .all 7, .all 8]), (6, .seq tF y13.2.2.1), (7, .seq tF y13.2.2.2.1), (8, .seq tF y13.2.2.2.2), (5, .seq tF y11.1), (0, .box [iC a0.1, iC a0.2.1, lC a0.2.2.1, lC a0.2.2.2.1, lC a0.2.2.2.2])], 12⟩ hX (by kernel_rfl) (allCons (f36_ok hc18) allNil) ?_
      refine HT.seq ?_
      obtain ⟨v19', hT21, hr⟩ := of_bind hr
      refine HT.join (fun (v19 : Bool) => ⟨[(1, .one (.dat (.sl tLI) a1)), (2, iV a2), (3, pV 0 0), (8, aV 1), (9, bV y11.2), (10, pV 2 0), (11, aV 3), (12, aV 4), (13, bV y17.2), (57, bV v19)], [(0, .box [iC a0.1, iC a0.2.1, lC a0.2.2.1, lC a0.2.2.2.1, lC a0.2.2.2.2]), (1, .seq tF y11.1), (2, .box [iC y13.1, iC y13.2.1, .all 5, .all 6, .all 7]), (3, .seq (.own tI) y15), (4, .seq tF y17.1), (5, .seq tF y13.2.2.1), (6, .seq tF y13.2.2.2.1), (7, .seq tF y13.2.2.2.2)], 8⟩) (fun v => v = v19') (fun v19 hv20 => ?_) (fun cont => ?_)
      · subst hv20
        rcases of_bif hr with ⟨hb22, hr⟩ | ⟨hb22, hr⟩
        · refine HT.cond1 rfl hb22 ?_
          refine HT.rg2 [oH] ⟨[(6, bV false)], [], 8⟩ hX (by kernel_rfl) allNil ?_
          have hr := of_some hr
          subst hr
          exact HT.ret (qThenR ⟨[bV false], [], [], by kernel_rfl, by kernel_rfl, rfl, by kernel_rfl, by kernel_rfl, trivial⟩)
        · refine HT.cond0 rfl hb22 ?_
          refine HT.skip (qThen ?_)
          refine HT.seq ?_
          obtain ⟨y23, hc24, hr⟩ := of_bind hr
          obtain ⟨y25, hc26, hr⟩ := of_bind hr
          refine HT.dr2 3 [⟨oH, []⟩, ⟨oH, []⟩, ⟨⟨none, .call [.imm (.st (.pair tI (.pair tI (.pair tLF (.pair tLF tLF)))))] [⟨true, (.st (.pair tI (.pair tI (.pair tLF (.pair tLF tLF))))), y23⟩] []⟩, [1]⟩] [[0, 1, 2], [0, 1, 2, 3]] [⟨none, .call [.imm (.st (.pair tI (.pair tI (.pair tLF (.pair tLF tLF))))), .imm (.st (.pair tI (.pair tI (.pair tLF (.pair tLF tLF)))))] [⟨false, .bool, y25⟩] []⟩, oH] ⟨[(1, .one (.dat (.sl tLI) a1)), (2, iV a2), (3, pV 0 0), (8, aV 1), (9, bV y11.2), (10, pV 2 0), (11, aV 3), (12, aV 4), (13, bV y17.2), (62, bV (!y25))], [(0, .box [iC a0.1, iC a0.2.1, lC a0.2.2.1, lC a0.2.2.2.1, lC a0.2.2.2.2]), (1, .seq tF y11.1), (2, .box [iC y13.1, iC y13.2.1, .all 5, .all 6, .all 7]), (3, .seq (.own tI) y15), (4, .seq tF y17.1), (5, .seq tF y13.2.2.1), (6, .seq tF y13.2.2.2.1), (7, .seq tF y13.2.2.2.2)], 11⟩ hX (by kernel_rfl) (by kernel_rfl) (allCons (f12_ok hc24) (allCons (f16_ok hc26) allNil)) ?_
          rcases of_bif hr with ⟨hb27, hr⟩ | ⟨hb27, hr⟩
          · refine HT.cond1 rfl hb27 ?_
            refine HT.rg2 [oH] ⟨[(6, bV false)], [], 11⟩ hX (by kernel_rfl) allNil ?_
            have hr := of_some hr
            subst hr
            exact HT.ret (qThenR ⟨[bV false], [], [], by kernel_rfl, by kernel_rfl, rfl, by kernel_rfl, by kernel_rfl, trivial⟩)
          · refine HT.cond0 rfl hb27 ?_
            refine HT.skip (qThen ?_)
            refine HT.seq ?_
            obtain ⟨y28, hc29, hr⟩ := of_bind hr
            obtain ⟨y30, hc31, hr⟩ := of_bind hr
            refine HT.rg2 [oH, oH, ⟨none, .call [.imm (.sl tLI)] [⟨true, (.sl (.own tI)), y28⟩] []⟩, ⟨none, .call [.imm (.sl tLI), .imm (.sl tLI)] [⟨false, .bool, y30⟩] []⟩, oH] ⟨[(1, .one (.dat (.sl tLI) a1)), (2, iV a2), (3, pV 0 0), (8, aV 1), (9, bV y11.2), (10, pV 2 0), (11, aV 3), (12, aV 4), (13, bV y17.2), (67, bV (!y30))], [(0, .box [iC a0.1, iC a0.2.1, lC a0.2.2.1, lC a0.2.2.2.1, lC a0.2.2.2.2]), (1, .seq tF y11.1), (2, .box [iC y13.1, iC y13.2.1, .all 5, .all 6, .all 7]), (3, .seq (.own tI) y15), (4, .seq tF y17.1), (5, .seq tF y13.2.2.1), (6, .seq tF y13.2.2.2.1), (7, .seq tF y13.2.2.2.2)], 12⟩ hX (by kernel_rfl) (allCons (f28_ok hc29) (allCons (f30_ok hc31) allNil)) ?_
            rcases of_bif hr with ⟨hb32, hr⟩ | ⟨hb32, hr⟩
            · refine HT.cond1 rfl hb32 ?_
              refine HT.rg2 [oH] ⟨[(6, bV false)], [], 12⟩ hX (by kernel_rfl) allNil ?_
              have hr := of_some hr
              subst hr
              exact HT.ret (qThenR ⟨[bV false], [], [], by kernel_rfl, by kernel_rfl, rfl, by kernel_rfl, by kernel_rfl, trivial⟩)
            · refine HT.cond0 rfl hb32 ?_
              refine HT.skip (qThen ?_)
              refine HT.rg2 [oH] ⟨[(1, .one (.dat (.sl tLI) a1)), (2, iV a2), (3, pV 0 0), (8, aV 1), (9, bV y11.2), (10, pV 2 0), (11, aV 3), (12, aV 4), (13, bV y17.2), (14, iV (1 : Int))], [(0, .box [iC a0.1, iC a0.2.1, lC a0.2.2.1, lC a0.2.2.2.1, lC a0.2.2.2.2]), (1, .seq tF y11.1), (2, .box [iC y13.1, iC y13.2.1, .all 5, .all 6, .all 7]), (3, .seq (.own tI) y15), (4, .seq tF y17.1), (5, .seq tF y13.2.2.1), (6, .seq tF y13.2.2.2.1), (7, .seq tF y13.2.2.2.2)], 12⟩ hX (by kernel_rfl) allNil ?_
              obtain ⟨y33, hc34, hr⟩ := of_bind hr
              refine HT.rg2 [oH, oH, ⟨none, .call [.own (.st (.pair tI (.pair tI (.pair tLF (.pair tLF tLF))))), .imm tI] [⟨false, tI, y33.1⟩] [⟨(.st (.pair tI (.pair tI (.pair tLF (.pair tLF tLF))))), y33.2⟩]⟩, oH] ⟨[(1, .one (.dat (.sl tLI) a1)), (2, iV a2), (3, pV 0 0), (8, aV 1), (9, bV y11.2), (11, aV 3), (12, aV 4), (13, bV y17.2), (14, iV y33.1)], [(0, .box [iC a0.1, iC a0.2.1, lC a0.2.2.1, lC a0.2.2.2.1, lC a0.2.2.2.2]), (1, .seq tF y11.1), (3, .seq (.own tI) y15), (4, .seq tF y17.1)], 12⟩ hX (by kernel_rfl) (allCons (f18_ok hc34) allNil) ?_
              obtain ⟨y35, hc36, hr⟩ := of_bind hr
              refine HT.rg2 [oH, oH, ⟨none, .call [.own (.sl (.own tI)), .imm tI] [⟨false, tI, y35.1⟩] [⟨(.sl (.own tI)), y35.2⟩]⟩, oH] ⟨[(1, .one (.dat (.sl tLI) a1)), (2, iV a2), (3, pV 0 0), (8, aV 1), (9, bV y11.2), (12, aV 4), (13, bV y17.2), (14, iV y35.1)], [(0, .box [iC a0.1, iC a0.2.1, lC a0.2.2.1, lC a0.2.2.2.1, lC a0.2.2.2.2]), (1, .seq tF y11.1), (4, .seq tF y17.1)], 12⟩ hX (by kernel_rfl) (allCons (f31_ok hc36) allNil) ?_
              refine HT.seq ?_
              obtain ⟨v37', hT39, hr⟩ := of_bind hr
              refine HT.join (fun (v37 : Bool) => ⟨[(1, .one (.dat (.sl tLI) a1)), (2, iV a2), (3, pV 0 0), (8, aV 1), (9, bV y11.2), (12, aV 2), (86, bV v37)], [(0, .box [iC a0.1, iC a0.2.1, lC a0.2.2.1, lC a0.2.2.2.1, lC a0.2.2.2.2]), (1, .seq tF y11.1), (2, .seq tF y17.1)], 3⟩) (fun v => v = v37') (fun v37 hv38 => ?_) (fun cont => ?_)
              · subst hv38
                rcases of_bif hr with ⟨hb40, hr⟩ | ⟨hb40, hr⟩
                · refine HT.cond1 rfl hb40 ?_
                  refine HT.rg2 [oH] ⟨[(6, bV false)], [], 3⟩ hX (by kernel_rfl) allNil ?_
                  have hr := of_some hr
                  subst hr
                  exact HT.ret (qThenR ⟨[bV false], [], [], by kernel_rfl, by kernel_rfl, rfl, by kernel_rfl, by kernel_rfl, trivial⟩)
                · refine HT.cond0 rfl hb40 ?_
                  refine HT.skip (qThen ?_)
                  refine HT.rg2 [oH] ⟨[(1, .one (.dat (.sl tLI) a1)), (2, iV a2), (3, pV 0 0), (8, aV 1), (9, bV y11.2), (12, aV 2), (15, iV (1 : Int))], [(0, .box [iC a0.1, iC a0.2.1, lC a0.2.2.1, lC a0.2.2.2.1, lC a0.2.2.2.2]), (1, .seq tF y11.1), (2, .seq tF y17.1)], 3⟩ hX (by kernel_rfl) allNil ?_
                  obtain ⟨y41, hc42, hr⟩ := of_bind hr
                  refine HT.rg2 [oH, oH, ⟨none, .call [.own tLF, .imm tI] [⟨false, tI, y41.1⟩] [⟨tLF, y41.2⟩]⟩, oH] ⟨[(1, .one (.dat (.sl tLI) a1)), (2, iV a2), (3, pV 0 0), (8, aV 1), (9, bV y11.2), (12, aV 2), (15, iV y41.1)], [(2, .seq tF y41.2), (0, .box [iC a0.1, iC a0.2.1, lC a0.2.2.1, lC a0.2.2.2.1, lC a0.2.2.2.2]), (1, .seq tF y11.1)], 3⟩ hX (by kernel_rfl) (allCons (f20_ok hc42) allNil) ?_
                  refine HT.rg2 [oH] ⟨[(1, .one (.dat (.sl tLI) a1)), (2, iV a2), (3, pV 0 0), (8, aV 1), (9, bV y11.2), (12, aV 2), (15, iV y41.1), (16, iV (1 : Int))], [(2, .seq tF y41.2), (0, .box [iC a0.1, iC a0.2.1, lC a0.2.2.1, lC a0.2.2.2.1, lC a0.2.2.2.2]), (1, .seq tF y11.1)], 3⟩ hX (by kernel_rfl) allNil ?_
                  obtain ⟨y43, hc44, hr⟩ := of_bind hr
                  refine HT.rg2 [oH, oH, ⟨none, .call [.imm tLF, .imm tI] [⟨false, tI, y43⟩] []⟩, oH] ⟨[(1, .one (.dat (.sl tLI) a1)), (2, iV a2), (3, pV 0 0), (8, aV 1), (9, bV y11.2), (12, aV 2), (15, iV y41.1), (16, iV y43)], [(2, .seq tF y41.2), (0, .box [iC a0.1, iC a0.2.1, lC a0.2.2.1, lC a0.2.2.2.1, lC a0.2.2.2.2]), (1, .seq tF y11.1)], 3⟩ hX (by kernel_rfl) (allCons (f21_ok hc44) allNil) ?_
                  refine HT.seq ?_
                  refine HT.rg2 (oHs 2) ⟨[(1, .one (.dat (.sl tLI) a1)), (2, iV a2), (3, pV 0 0), (8, aV 1), (9, bV y11.2), (12, aV 2), (15, iV y41.1), (16, iV y43), (94, bV (decide (y43 < (0 : Int))))], [(2, .seq tF y41.2), (0, .box [iC a0.1, iC a0.2.1, lC a0.2.2.1, lC a0.2.2.2.1, lC a0.2.2.2.2]), (1, .seq tF y11.1)], 3⟩ hX (by kernel_rfl) allNil ?_
                  rcases of_bif hr with ⟨hb45, hr⟩ | ⟨hb45, hr⟩
                  · refine HT.cond1 rfl hb45 ?_
                    refine HT.rg2 [oH] ⟨[(6, bV false)], [], 3⟩ hX (by kernel_rfl) allNil ?_
                    have hr := of_some hr
                    subst hr
                    exact HT.ret (qThenR ⟨[bV false], [], [], by kernel_rfl, by kernel_rfl, rfl, by kernel_rfl, by kernel_rfl, trivial⟩)
                  · refine HT.cond0 rfl hb45 ?_
                    refine HT.skip (qThen ?_)
                    refine HT.seq ?_
                    refine HT.rg2 (oHs 3) ⟨[(1, .one (.dat (.sl tLI) a1)), (2, iV a2), (3, pV 0 0), (8, aV 1), (9, bV y11.2), (12, aV 2), (15, iV y41.1), (97, bV (y43 != y41.1))], [(2, .seq tF y41.2), (0, .box [iC a0.1, iC a0.2.1, lC a0.2.2.1, lC a0.2.2.2.1, lC a0.2.2.2.2]), (1, .seq tF y11.1)], 3⟩ hX (by kernel_rfl) allNil ?_
                    rcases of_bif hr with ⟨hb46, hr⟩ | ⟨hb46, hr⟩
                    · refine HT.cond1 rfl hb46 ?_
                      refine HT.rg2 [oH] ⟨[(6, bV false)], [], 3⟩ hX (by kernel_rfl) allNil ?_
                      have hr := of_some hr
                      subst hr
                      exact HT.ret (qThenR ⟨[bV false], [], [], by kernel_rfl, by kernel_rfl, rfl, by kernel_rfl, by kernel_rfl, trivial⟩)
                    · refine HT.cond0 rfl hb46 ?_
                      refine HT.skip (qThen ?_)
                      obtain ⟨y47, hc48, hr⟩ := of_bind hr
                      obtain ⟨y49, hc50, hr⟩ := of_bind hr
                      obtain ⟨y51, hc52, hr⟩ := of_bind hr
                      refine HT.rg2 [oH, ⟨none, .call [.imm (.st (.pair tI (.pair tI (.pair tLF (.pair tLF tLF)))))] [⟨true, (.st (.pair tI (.pair tI (.pair tLF (.pair tLF tLF))))), y47⟩] []⟩, oH, ⟨none, .call [.imm (.sl tLI)] [⟨true, (.sl (.own tI)), y49⟩] []⟩, oH, ⟨none, .call [.imm (.st (.pair tI (.pair tI (.pair tLF (.pair tLF tLF))))), .imm (.sl tLI), .imm tI] [⟨true, tLF, y51.1⟩, ⟨false, .bool, y51.2⟩] []⟩, oH, oH, oH, oH, oH] ⟨[(8, aV 1), (9, bV y11.2), (12, aV 2), (15, iV y41.1), (17, aV 7), (18, bV y51.2)], [(7, .seq tF y51.1), (2, .seq tF y41.2), (1, .seq tF y11.1)], 8⟩ hX (by kernel_rfl) (allCons (f12_ok hc48) (allCons (f28_ok hc50) (allCons (f36_ok hc52) allNil))) ?_
                      refine HT.seq ?_
                      obtain ⟨v53', hT55, hr⟩ := of_bind hr
                      refine HT.join (fun (v53 : Bool) => ⟨[(12, aV 0), (15, iV y41.1), (115, bV v53)], [(0, .seq tF y41.2)], 1⟩) (fun v => v = v53') (fun v53 hv54 => ?_) (fun cont => ?_)
                      · subst hv54
                        rcases of_bif hr with ⟨hb56, hr⟩ | ⟨hb56, hr⟩
                        · refine HT.cond1 rfl hb56 ?_
                          refine HT.rg2 [oH] ⟨[(6, bV false)], [], 1⟩ hX (by kernel_rfl) allNil ?_
                          have hr := of_some hr
                          subst hr
                          exact HT.ret (qThenR ⟨[bV false], [], [], by kernel_rfl, by kernel_rfl, rfl, by kernel_rfl, by kernel_rfl, trivial⟩)
                        · refine HT.cond0 rfl hb56 ?_
                          refine HT.skip (qThen ?_)
                          refine HT.rg2 [oH] ⟨[(12, aV 0), (15, iV y41.1), (16, iV (1 : Int))], [(0, .seq tF y41.2)], 1⟩ hX (by kernel_rfl) allNil ?_
                          obtain ⟨y57, hc58, hr⟩ := of_bind hr
                          refine HT.rg2 [oH, oH, ⟨none, .call [.imm tLF, .imm tI] [⟨false, tI, y57⟩] []⟩, oH] ⟨[(15, iV y41.1), (16, iV y57)], [], 1⟩ hX (by kernel_rfl) (allCons (f21_ok hc58) allNil) ?_
                          refine HT.seq ?_
                          refine HT.rg2 (oHs 2) ⟨[(15, iV y41.1), (16, iV y57), (120, bV (decide (y57 < (0 : Int))))], [], 1⟩ hX (by kernel_rfl) allNil ?_
                          rcases of_bif hr with ⟨hb59, hr⟩ | ⟨hb59, hr⟩
                          · refine HT.cond1 rfl hb59 ?_
                            refine HT.rg2 [oH] ⟨[(6, bV false)], [], 1⟩ hX (by kernel_rfl) allNil ?_
                            have hr := of_some hr
                            subst hr
                            exact HT.ret (qThenR ⟨[bV false], [], [], by kernel_rfl, by kernel_rfl, rfl, by kernel_rfl, by kernel_rfl, trivial⟩)
                          · refine HT.cond0 rfl hb59 ?_
                            refine HT.skip (qThen ?_)
                            refine HT.seq ?_
                            refine HT.rg2 (oHs 3) ⟨[(123, bV (y57 != y41.1))], [], 1⟩ hX (by kernel_rfl) allNil ?_
                            rcases of_bif hr with ⟨hb60, hr⟩ | ⟨hb60, hr⟩
                            · refine HT.cond1 rfl hb60 ?_
                              refine HT.rg2 [oH] ⟨[(6, bV false)], [], 1⟩ hX (by kernel_rfl) allNil ?_
                              have hr := of_some hr
                              subst hr
                              exact HT.ret (qThenR ⟨[bV false], [], [], by kernel_rfl, by kernel_rfl, rfl, by kernel_rfl, by kernel_rfl, trivial⟩)
                            · refine HT.cond0 rfl hb60 ?_
                              refine HT.skip (qThen ?_)
                              refine HT.rg2 [oH] ⟨[(6, bV true)], [], 1⟩ hX (by kernel_rfl) allNil ?_
                              have hr := of_some hr
                              subst hr
                              exact HT.ret ⟨[bV true], [], [], by kernel_rfl, by kernel_rfl, rfl, by kernel_rfl, by kernel_rfl, trivial⟩
                      · obtain ⟨y61, hc62, hT55⟩ := of_bind hT55
                        rcases of_bif hT55 with ⟨hb63, hT55⟩ | ⟨hb63, hT55⟩
                        · refine HT.rgL [oH, oH, ⟨none, .call [.imm tLF, .imm tLF] [⟨false, .bool, y61⟩] []⟩, oH, oH, ⟨some true, .no⟩, ⟨some true, .no⟩, ⟨some true, .no⟩, ⟨none, .tv true⟩] ⟨[(12, aV 2), (15, iV y41.1), (115, bV true)], [(2, .seq tF y41.2)], 8⟩ hX (by kernel_rfl) (allCons (f15_ok hc62) (allCons hb63 (allCons hb63 (allCons hb63 (allCons hb63 allNil))))) (qThen ?_)
                          exact (Le.cv (s := ⟨[(2, 0)], [], [], false⟩) (own := []) (ps := [y41.1 = y41.1, true = true, y41.2 = y41.2]) (st' := ⟨[(12, aV 0), (15, iV y41.1), (115, bV true)], [(0, .seq tF y41.2)], 1⟩) hO (fun h => by cases h) (by kernel_rfl) ⟨rfl, rfl, rfl, trivial⟩).ht (cont true (of_some hT55))
                        · refine HT.rgL [oH, oH, ⟨none, .call [.imm tLF, .imm tLF] [⟨false, .bool, y61⟩] []⟩, oH, oH, ⟨some false, .no⟩, ⟨some false, .no⟩, ⟨some false, .no⟩, ⟨none, .tv false⟩] ⟨[(12, aV 2), (15, iV y41.1), (115, bV (y51.2 != y11.2))], [(2, .seq tF y41.2)], 8⟩ hX (by kernel_rfl) (allCons (f15_ok hc62) (allCons hb63 (allCons hb63 (allCons hb63 (allCons hb63 allNil))))) (qThen ?_)
                          exact (Le.cv (s := ⟨[(2, 0)], [], [], false⟩) (own := []) (ps := [y41.1 = y41.1, (y51.2 != y11.2) = (y51.2 != y11.2), y41.2 = y41.2]) (st' := ⟨[(12, aV 0), (15, iV y41.1), (115, bV (y51.2 != y11.2))], [(0, .seq tF y41.2)], 1⟩) hO (fun h => by cases h) (by kernel_rfl) ⟨rfl, rfl, rfl, trivial⟩).ht (cont (y51.2 != y11.2) (of_some hT55))
              · rcases of_bif hT39 with ⟨hb64, hT39⟩ | ⟨hb64, hT39⟩
                · refine HT.rgL [oH, oH, oH, ⟨some true, .no⟩, ⟨some true, .no⟩, ⟨some true, .no⟩, ⟨some true, .no⟩, ⟨none, .tv true⟩, oH, ⟨some true, .no⟩, ⟨some true, .no⟩, ⟨some true, .no⟩, ⟨none, .tv true⟩] ⟨[(1, .one (.dat (.sl tLI) a1)), (2, iV a2), (3, pV 0 0), (8, aV 1), (9, bV y11.2), (12, aV 4), (86, bV true)], [(0, .box [iC a0.1, iC a0.2.1, lC a0.2.2.1, lC a0.2.2.2.1, lC a0.2.2.2.2]), (1, .seq tF y11.1), (4, .seq tF y17.1)], 12⟩ hX (by kernel_rfl) (allCons hb64 (allCons hb64 (allCons hb64 (allCons hb64 (allCons hb64 (allCons (rfl : true = true) (allCons (rfl : true = true) (allCons (rfl : true = true) (allCons (rfl : true = true) allNil))))))))) (qThen ?_)
                  exact (Le.cv (s := ⟨[(0, 0), (1, 1), (4, 2)], [], [], false⟩) (own := []) (ps := [a1 = a1, a2 = a2, y11.2 = y11.2, true = true, a0.1 = a0.1, a0.2.1 = a0.2.1, a0.2.2.1 = a0.2.2.1, a0.2.2.2.1 = a0.2.2.2.1, a0.2.2.2.2 = a0.2.2.2.2, y11.1 = y11.1, y17.1 = y17.1]) (st' := ⟨[(1, .one (.dat (.sl tLI) a1)), (2, iV a2), (3, pV 0 0), (8, aV 1), (9, bV y11.2), (12, aV 2), (86, bV true)], [(0, .box [iC a0.1, iC a0.2.1, lC a0.2.2.1, lC a0.2.2.2.1, lC a0.2.2.2.2]), (1, .seq tF y11.1), (2, .seq tF y17.1)], 3⟩) hO (fun h => by cases h) (by kernel_rfl) ⟨rfl, rfl, rfl, rfl, rfl, rfl, rfl, rfl, rfl, rfl, rfl, trivial⟩).ht (cont true (of_some hT39))
                · obtain ⟨y65, hc66, hT39⟩ := of_bind hT39
                  rcases of_bif hT39 with ⟨hb67, hT39⟩ | ⟨hb67, hT39⟩
                  · refine HT.rgL [oH, oH, oH, ⟨some false, .no⟩, ⟨some false, .no⟩, ⟨some false, .call [.imm tLF, .imm tLF] [⟨false, .bool, y65⟩] []⟩, ⟨some false, .no⟩, ⟨none, .tv false⟩, oH, ⟨some true, .no⟩, ⟨some true, .no⟩, ⟨some true, .no⟩, ⟨none, .tv true⟩] ⟨[(1, .one (.dat (.sl tLI) a1)), (2, iV a2), (3, pV 0 0), (8, aV 1), (9, bV y11.2), (12, aV 4), (86, bV true)], [(0, .box [iC a0.1, iC a0.2.1, lC a0.2.2.1, lC a0.2.2.2.1, lC a0.2.2.2.2]), (1, .seq tF y11.1), (4, .seq tF y17.1)], 12⟩ hX (by kernel_rfl) (allCons hb64 (allCons hb64 (allCons hb64 (allCons (f15_ok hc66) (allCons hb64 (allCons hb64 (allCons hb67 (allCons hb67 (allCons hb67 (allCons hb67 allNil)))))))))) (qThen ?_)
                    exact (Le.cv (s := ⟨[(0, 0), (1, 1), (4, 2)], [], [], false⟩) (own := []) (ps := [a1 = a1, a2 = a2, y11.2 = y11.2, true = true, a0.1 = a0.1, a0.2.1 = a0.2.1, a0.2.2.1 = a0.2.2.1, a0.2.2.2.1 = a0.2.2.2.1, a0.2.2.2.2 = a0.2.2.2.2, y11.1 = y11.1, y17.1 = y17.1]) (st' := ⟨[(1, .one (.dat (.sl tLI) a1)), (2, iV a2), (3, pV 0 0), (8, aV 1), (9, bV y11.2), (12, aV 2), (86, bV true)], [(0, .box [iC a0.1, iC a0.2.1, lC a0.2.2.1, lC a0.2.2.2.1, lC a0.2.2.2.2]), (1, .seq tF y11.1), (2, .seq tF y17.1)], 3⟩) hO (fun h => by cases h) (by kernel_rfl) ⟨rfl, rfl, rfl, rfl, rfl, rfl, rfl, rfl, rfl, rfl, rfl, trivial⟩).ht (cont true (of_some hT39))
                  · refine HT.rgL [oH, oH, oH, ⟨some false, .no⟩, ⟨some false, .no⟩, ⟨some false, .call [.imm tLF, .imm tLF] [⟨false, .bool, y65⟩] []⟩, ⟨some false, .no⟩, ⟨none, .tv false⟩, oH, ⟨some false, .no⟩, ⟨some false, .no⟩, ⟨some false, .no⟩, ⟨none, .tv false⟩] ⟨[(1, .one (.dat (.sl tLI) a1)), (2, iV a2), (3, pV 0 0), (8, aV 1), (9, bV y11.2), (12, aV 4), (86, bV (y17.2 != y11.2))], [(0, .box [iC a0.1, iC a0.2.1, lC a0.2.2.1, lC a0.2.2.2.1, lC a0.2.2.2.2]), (1, .seq tF y11.1), (4, .seq tF y17.1)], 12⟩ hX (by kernel_rfl) (allCons hb64 (allCons hb64 (allCons hb64 (allCons (f15_ok hc66) (allCons hb64 (allCons hb64 (allCons hb67 (allCons hb67 (allCons hb67 (allCons hb67 allNil)))))))))) (qThen ?_)
                    exact (Le.cv (s := ⟨[(0, 0), (1, 1), (4, 2)], [], [], false⟩) (own := []) (ps := [a1 = a1, a2 = a2, y11.2 = y11.2, (y17.2 != y11.2) = (y17.2 != y11.2), a0.1 = a0.1, a0.2.1 = a0.2.1, a0.2.2.1 = a0.2.2.1, a0.2.2.2.1 = a0.2.2.2.1, a0.2.2.2.2 = a0.2.2.2.2, y11.1 = y11.1, y17.1 = y17.1]) (st' := ⟨[(1, .one (.dat (.sl tLI) a1)), (2, iV a2), (3, pV 0 0), (8, aV 1), (9, bV y11.2), (12, aV 2), (86, bV (y17.2 != y11.2))], [(0, .box [iC a0.1, iC a0.2.1, lC a0.2.2.1, lC a0.2.2.2.1, lC a0.2.2.2.2]), (1, .seq tF y11.1), (2, .seq tF y17.1)], 3⟩) hO (fun h => by cases h) (by kernel_rfl) ⟨rfl, rfl, rfl, rfl, rfl, rfl, rfl, rfl, rfl, rfl, rfl, trivial⟩).ht (cont (y17.2 != y11.2) (of_some hT39))
      · obtain ⟨y68, hc69, hT21⟩ := of_bind hT21
        rcases of_bif hT21 with ⟨hb70, hT21⟩ | ⟨hb70, hT21⟩
        · refine HT.rgL [oH, oH, ⟨none, .call [.imm tLF, .imm tLF] [⟨false, .bool, y68⟩] []⟩, oH, oH, ⟨some true, .no⟩, ⟨some true, .no⟩, ⟨some true, .no⟩, ⟨none, .tv true⟩] ⟨[(1, .one (.dat (.sl tLI) a1)), (2, iV a2), (3, pV 0 0), (8, aV 5), (9, bV y11.2), (10, pV 9 0), (11, aV 10), (12, aV 11), (13, bV y17.2), (57, bV true)], [(11, .seq tF y17.1), (10, .seq (.own tI) y15), (9, .box [iC y13.1, iC y13.2.1, .all 6, .all 7, .all 8]), (6, .seq tF y13.2.2.1), (7, .seq tF y13.2.2.2.1), (8, .seq tF y13.2.2.2.2), (5, .seq tF y11.1), (0, .box [iC a0.1, iC a0.2.1, lC a0.2.2.1, lC a0.2.2.2.1, lC a0.2.2.2.2])], 12⟩ hX (by kernel_rfl) (allCons (f15_ok hc69) (allCons hb70 (allCons hb70 (allCons hb70 (allCons hb70 allNil))))) (qThen ?_)
          exact (Le.cv (s := ⟨[(0, 0), (5, 1), (9, 2), (10, 3), (11, 4), (6, 5), (7, 6), (8, 7)], [], [], false⟩) (own := []) (ps := [a1 = a1, a2 = a2, y11.2 = y11.2, y17.2 = y17.2, true = true, a0.1 = a0.1, a0.2.1 = a0.2.1, a0.2.2.1 = a0.2.2.1, a0.2.2.2.1 = a0.2.2.2.1, a0.2.2.2.2 = a0.2.2.2.2, y11.1 = y11.1, y13.1 = y13.1, y13.2.1 = y13.2.1, y15 = y15, y17.1 = y17.1, y13.2.2.1 = y13.2.2.1, y13.2.2.2.1 = y13.2.2.2.1, y13.2.2.2.2 = y13.2.2.2.2]) (st' := ⟨[(1, .one (.dat (.sl tLI) a1)), (2, iV a2), (3, pV 0 0), (8, aV 1), (9, bV y11.2), (10, pV 2 0), (11, aV 3), (12, aV 4), (13, bV y17.2), (57, bV true)], [(0, .box [iC a0.1, iC a0.2.1, lC a0.2.2.1, lC a0.2.2.2.1, lC a0.2.2.2.2]), (1, .seq tF y11.1), (2, .box [iC y13.1, iC y13.2.1, .all 5, .all 6, .all 7]), (3, .seq (.own tI) y15), (4, .seq tF y17.1), (5, .seq tF y13.2.2.1), (6, .seq tF y13.2.2.2.1), (7, .seq tF y13.2.2.2.2)], 8⟩) hO (fun h => by cases h) (by kernel_rfl) ⟨rfl, rfl, rfl, rfl, rfl, rfl, rfl, rfl, rfl, rfl, rfl, rfl, rfl, rfl, rfl, rfl, rfl, rfl, trivial⟩).ht (cont true (of_some hT21))
        · refine HT.rgL [oH, oH, ⟨none, .call [.imm tLF, .imm tLF] [⟨false, .bool, y68⟩] []⟩, oH, oH, ⟨some false, .no⟩, ⟨some false, .no⟩, ⟨some false, .no⟩, ⟨none, .tv false⟩] ⟨[(1, .one (.dat (.sl tLI) a1)), (2, iV a2), (3, pV 0 0), (8, aV 5), (9, bV y11.2), (10, pV 9 0), (11, aV 10), (12, aV 11), (13, bV y17.2), (57, bV (y17.2 != y11.2))], [(11, .seq tF y17.1), (10, .seq (.own tI) y15), (9, .box [iC y13.1, iC y13.2.1, .all 6, .all 7, .all 8]), (6, .seq tF y13.2.2.1), (7, .seq tF y13.2.2.2.1), (8, .seq tF y13.2.2.2.2), (5, .seq tF y11.1), (0, .box [iC a0.1, iC a0.2.1, lC a0.2.2.1, lC a0.2.2.2.1, lC a0.2.2.2.2])], 12⟩ hX (by kernel_rfl) (allCons (f15_ok hc69) (allCons hb70 (allCons hb70 (allCons hb70 (allCons hb70 allNil))))) (qThen ?_)
          exact (Le.cv (s := ⟨[(0, 0), (5, 1), (9, 2), (10, 3), (11, 4), (6, 5), (7, 6), (8, 7)], [], [], false⟩) (own := []) (ps := [a1 = a1, a2 = a2, y11.2 = y11.2, y17.2 = y17.2, (y17.2 != y11.2) = (y17.2 != y11.2), a0.1 = a0.1, a0.2.1 = a0.2.1, a0.2.2.1 = a0.2.2.1, a0.2.2.2.1 = a0.2.2.2.1, a0.2.2.2.2 = a0.2.2.2.2, y11.1 = y11.1, y13.1 = y13.1, y13.2.1 = y13.2.1, y15 = y15, y17.1 = y17.1, y13.2.2.1 = y13.2.2.1, y13.2.2.2.1 = y13.2.2.2.1, y13.2.2.2.2 = y13.2.2.2.2]) (st' := ⟨[(1, .one (.dat (.sl tLI) a1)), (2, iV a2), (3, pV 0 0), (8, aV 1), (9, bV y11.2), (10, pV 2 0), (11, aV 3), (12, aV 4), (13, bV y17.2), (57, bV (y17.2 != y11.2))], [(0, .box [iC a0.1, iC a0.2.1, lC a0.2.2.1, lC a0.2.2.2.1, lC a0.2.2.2.2]), (1, .seq tF y11.1), (2, .box [iC y13.1, iC y13.2.1, .all 5, .all 6, .all 7]), (3, .seq (.own tI) y15), (4, .seq tF y17.1), (5, .seq tF y13.2.2.1), (6, .seq tF y13.2.2.2.1), (7, .seq tF y13.2.2.2.2)], 8⟩) hO (fun h => by cases h) (by kernel_rfl) ⟨rfl, rfl, rfl, rfl, rfl, rfl, rfl, rfl, rfl, rfl, rfl, rfl, rfl, rfl, rfl, rfl, rfl, rfl, trivial⟩).ht (cont (y17.2 != y11.2) (of_some hT21))

end Go.Proofs
