import Derived.Test.YtcdcholgpdladaaNewDeskPl
import Derived.Test.YtcdcholgpdladaaRows
set_option linter.unusedVariables false
set_option linter.unusedSimpArgs false
set_option linter.unusedSectionVars false
/-
  FnExactNewDesk returns true for all arguments, and each argument reads afterwards as it read before. No condition.
-/
namespace Go.Proofs.Ytcdcholgpdladaa
open Go.ChangeShapes Go.WideShapes Go.ChangeAt Go.RowKit Go.Ide

theorem NewDesk.own : ownKnob Try.prog.godebug = none := by kernel_rfl

theorem NewDesk.all : ∀ l : List TD, l.map TD.t = [] → (∀ d ∈ l, WfD d.t d.x) → CallOK Try.prog 3 (immArgs l) [⟨false, .bool, true⟩] [] := by
  intro l hl hw
  match l, hl, hw with
  | [], rfl, hw => exact f3_ok (NewDesk_law  )

set_option maxRecDepth 100000 in
theorem NewDesk.lifted (os : Os) (started : os.Started) (H : Type) (enc : TypeId × Value → H) :
    ReturnsInHanded {} Try.checked os 3 .any (Rows.fnExactNewDeskSpec.pre6 enc Try.prog Try.f3 Rows.fnExactNewDeskRow.domain false) (Rows.fnExactNewDeskSpec.post enc Try.prog Try.f3 false true false false) := by
  refine returnsInHanded_of_change (C := Try.checked) NewDesk.own started (by kernel_rfl) Try.func3
    (ChangeSpec.witness6 (enc := enc) (C := Try.checked) false ⟨#[], #[], []⟩ 8 (by kernel_rfl) (by kernel_rfl) (by kernel_rfl) (by kernel_rfl)) ?_
  intro W base args ds gs before hval hW hcnd _
  exact law_run (P := Try.prog) (f := 3) (fn := Try.f3) (s := Rows.fnExactNewDeskSpec) (T := 4) (ts := []) (base := base) (by kernel_rfl) (by kernel_rfl) rfl (by kernel_rfl) (by kernel_rfl) (by kernel_rfl) (fun h => by
    match ds, h with
    | [], _ => rfl) NewDesk.all hval hW

theorem NewDesk.holds : Rows.FnExactNewDeskSaid :=
  OpenClaim.holds_of_wide 3 Try.f3 rfl rfl rfl rfl rfl rfl rfl ⟨rfl, rfl, rfl, rfl, rfl⟩ rfl rfl rfl rfl rfl (by kernel_rfl) Try.func3 (by kernel_rfl)
    (of_decide_eq_true (by kernel_rfl)) (by unfold Func.isWrapper; first | (rw [if_pos (by decide +kernel)]; kernel_rfl) | (rw [if_neg (by decide +kernel)]; exact ⟨rfl, rfl⟩))
    (fun os started H enc _ => NewDesk.lifted os started H enc)

end Go.Proofs.Ytcdcholgpdladaa
