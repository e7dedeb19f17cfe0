import Derived.Test.YtlipeppmdeanbaaLoadKeptPl
import Derived.Test.YtlipeppmdeanbaaRows
set_option linter.unusedVariables false
set_option linter.unusedSimpArgs false
set_option linter.unusedSectionVars false
/-
  FnExactLoadKept returns true for all arguments, and each argument reads afterwards as it read before. No condition.
-/
namespace Go.Proofs.Ytlipeppmdeanbaa
open Go.ChangeShapes Go.WideShapes Go.ChangeAt Go.RowKit Go.Ide

theorem LoadKept.own : ownKnob Try.prog.godebug = none := by kernel_rfl

theorem LoadKept.all : ∀ l : List TD, l.map TD.t = [.str] → (∀ d ∈ l, WfD d.t d.x) → CallOK Try.prog 13 (immArgs l) [⟨false, .bool, true⟩] [] := by
  intro l hl hw
  match l, hl, hw with
  | [⟨_, x0⟩], rfl, hw => exact f13_ok (LoadKept_law x0 (hw _ (List.Mem.head _)))

set_option maxRecDepth 100000 in
theorem LoadKept.lifted (os : Os) (started : os.Started) (H : Type) (enc : TypeId × Value → H) :
    ReturnsInHanded {} Try.checked os 13 .any (Rows.fnExactLoadKeptSpec.pre6 enc Try.prog Try.f13 Rows.fnExactLoadKeptRow.domain false) (Rows.fnExactLoadKeptSpec.post enc Try.prog Try.f13 false true false false) := by
  refine returnsInHanded_of_change (C := Try.checked) LoadKept.own started (by kernel_rfl) Try.func13
    (ChangeSpec.witness6 (enc := enc) (C := Try.checked) false ⟨#[], #[.string ⟨#[]⟩], []⟩ 8 (by kernel_rfl) (by kernel_rfl) (by kernel_rfl) (by kernel_rfl)) ?_
  intro W base args ds gs before hval hW hcnd _
  exact law_run (P := Try.prog) (f := 13) (fn := Try.f13) (s := Rows.fnExactLoadKeptSpec) (T := 4) (ts := [.str]) (base := base) (by kernel_rfl) (by kernel_rfl) rfl (by kernel_rfl) (by kernel_rfl) (by kernel_rfl) (fun h => by
    match ds, h with
    | [d0], _ => rfl) LoadKept.all hval hW

theorem LoadKept.holds : Rows.FnExactLoadKeptSaid :=
  OpenClaim.holds_of_wide 13 Try.f13 rfl rfl rfl rfl rfl rfl rfl ⟨rfl, rfl, rfl, rfl, rfl⟩ rfl rfl rfl rfl rfl (by kernel_rfl) Try.func13 (by kernel_rfl)
    (of_decide_eq_true (by kernel_rfl)) (by unfold Func.isWrapper; first | (rw [if_pos (by decide +kernel)]; kernel_rfl) | (rw [if_neg (by decide +kernel)]; exact ⟨rfl, rfl⟩))
    (fun os started H enc _ => LoadKept.lifted os started H enc)

end Go.Proofs.Ytlipeppmdeanbaa
