import Derived.Test.YthilbincoogfkaaRecoverKeptsPl
import Derived.Test.YthilbincoogfkaaRows
set_option linter.unusedVariables false
set_option linter.unusedSimpArgs false
set_option linter.unusedSectionVars false
/-
  FnExactRecoverKepts returns true for all arguments, and each argument reads afterwards as it read before. No condition.
-/
namespace Go.Proofs.Ythilbincoogfkaa
open Go.ChangeShapes Go.WideShapes Go.ChangeAt Go.RowKit Go.Ide

theorem RecoverKepts.own : ownKnob Try.prog.godebug = none := by kernel_rfl

theorem RecoverKepts.all : ∀ l : List TD, l.map TD.t = [.str] → (∀ d ∈ l, WfD d.t d.x) → CallOK Try.prog 9 (immArgs l) [⟨false, .bool, true⟩] [] := by
  intro l hl hw
  match l, hl, hw with
  | [⟨_, x0⟩], rfl, hw => exact f9_ok (RecoverKepts_law x0 (hw _ (List.Mem.head _)))

set_option maxRecDepth 100000 in
theorem RecoverKepts.lifted (os : Os) (started : os.Started) (H : Type) (enc : TypeId × Value → H) :
    ReturnsInHanded {} Try.checked os 9 .any (Rows.fnExactRecoverKeptsSpec.pre6 enc Try.prog Try.f9 Rows.fnExactRecoverKeptsRow.domain false) (Rows.fnExactRecoverKeptsSpec.post enc Try.prog Try.f9 false true false false) := by
  refine returnsInHanded_of_change (C := Try.checked) RecoverKepts.own started (by kernel_rfl) Try.func9
    (ChangeSpec.witness6 (enc := enc) (C := Try.checked) false ⟨#[], #[.string ⟨#[]⟩], []⟩ 8 (by kernel_rfl) (by kernel_rfl) (by kernel_rfl) (by kernel_rfl)) ?_
  intro W base args ds gs before hval hW hcnd _
  exact law_run (P := Try.prog) (f := 9) (fn := Try.f9) (s := Rows.fnExactRecoverKeptsSpec) (T := 4) (ts := [.str]) (base := base) (by kernel_rfl) (by kernel_rfl) rfl (by kernel_rfl) (by kernel_rfl) (by kernel_rfl) (fun h => by
    match ds, h with
    | [d0], _ => rfl) RecoverKepts.all hval hW

theorem RecoverKepts.holds : Rows.FnExactRecoverKeptsSaid :=
  OpenClaim.holds_of_wide 9 Try.f9 rfl rfl rfl rfl rfl rfl rfl ⟨rfl, rfl, rfl, rfl, rfl⟩ rfl rfl rfl rfl rfl (by kernel_rfl) Try.func9 (by kernel_rfl)
    (of_decide_eq_true (by kernel_rfl)) (by unfold Func.isWrapper; first | (rw [if_pos (by decide +kernel)]; kernel_rfl) | (rw [if_neg (by decide +kernel)]; exact ⟨rfl, rfl⟩))
    (fun os started H enc _ => RecoverKepts.lifted os started H enc)

end Go.Proofs.Ythilbincoogfkaa
