import Derived.Test.YtkejogbikbnafaaTurnGamePl
import Derived.Test.YtkejogbikbnafaaRows
set_option linter.unusedVariables false
set_option linter.unusedSimpArgs false
set_option linter.unusedSectionVars false
/-
  FnExactTurnGame returns true for all arguments, and each argument reads afterwards as it read before. No condition.
-/
namespace Go.Proofs.Ytkejogbikbnafaa
open Go.ChangeShapes Go.WideShapes Go.ChangeAt Go.RowKit Go.Ide

theorem TurnGame.own : ownKnob Try.prog.godebug = none := by kernel_rfl

theorem TurnGame.all : ∀ l : List TD, l.map TD.t = [.st (.pair (.sl (.int .i64)) (.pair (.sl (.int .i64)) (.sl (.sl (.int .i64)))))] → (∀ d ∈ l, WfD d.t d.x) → CallOK Try.prog 3 (immArgs l) [⟨false, .bool, true⟩] [] := by
  intro l hl hw
  match l, hl, hw with
  | [⟨_, x0⟩], rfl, hw => exact f3_ok (TurnGame_law x0 (hw _ (List.Mem.head _)))

set_option maxRecDepth 100000 in
theorem TurnGame.lifted (os : Os) (started : os.Started) (H : Type) (enc : TypeId × Value → H) :
    ReturnsInHanded {} Try.checked os 3 .any (Rows.fnExactTurnGameSpec.pre6 enc Try.prog Try.f3 Rows.fnExactTurnGameRow.domain false) (Rows.fnExactTurnGameSpec.post enc Try.prog Try.f3 false true false false) := by
  refine returnsInHanded_of_change (C := Try.checked) TurnGame.own started (by kernel_rfl) Try.func3
    (ChangeSpec.witness6 (enc := enc) (C := Try.checked) false ⟨#[], #[.agg #[.slice none 0 0, .slice none 0 0, .slice none 0 0]], []⟩ 8 (by kernel_rfl) (by kernel_rfl) (by kernel_rfl) (by kernel_rfl)) ?_
  intro W base args ds gs before hval hW hcnd _
  exact law_run (P := Try.prog) (f := 3) (fn := Try.f3) (s := Rows.fnExactTurnGameSpec) (T := 4) (ts := [.st (.pair (.sl (.int .i64)) (.pair (.sl (.int .i64)) (.sl (.sl (.int .i64)))))]) (base := base) (by kernel_rfl) (by kernel_rfl) rfl (by kernel_rfl) (by kernel_rfl) (by kernel_rfl) (fun h => by
    match ds, h with
    | [d0], _ => rfl) TurnGame.all hval hW

theorem TurnGame.holds : Rows.FnExactTurnGameSaid :=
  OpenClaim.holds_of_wide 3 Try.f3 rfl rfl rfl rfl rfl rfl rfl ⟨rfl, rfl, rfl, rfl, rfl⟩ rfl rfl rfl rfl rfl (by kernel_rfl) Try.func3 (by kernel_rfl)
    (of_decide_eq_true (by kernel_rfl)) (by unfold Func.isWrapper; first | (rw [if_pos (by decide +kernel)]; kernel_rfl) | (rw [if_neg (by decide +kernel)]; exact ⟨rfl, rfl⟩))
    (fun os started H enc _ => TurnGame.lifted os started H enc)

end Go.Proofs.Ytkejogbikbnafaa
