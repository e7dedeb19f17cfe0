import Derived.Test.YtkejogbikbnafaaMovesOfGamePl
import Derived.Test.YtkejogbikbnafaaRows
set_option linter.unusedVariables false
set_option linter.unusedSimpArgs false
set_option linter.unusedSectionVars false
/-
  FnExactMovesOfGame returns true for all arguments, and each argument reads afterwards as it read before. No condition.
-/
namespace Go.Proofs.Ytkejogbikbnafaa
open Go.ChangeShapes Go.WideShapes Go.ChangeAt Go.RowKit Go.Ide

theorem MovesOfGame.own : ownKnob Try.prog.godebug = none := by kernel_rfl

theorem MovesOfGame.all : ∀ l : List TD, l.map TD.t = [.st (.pair (.sl (.int .i64)) (.pair (.sl (.int .i64)) (.sl (.sl (.int .i64)))))] → (∀ d ∈ l, WfD d.t d.x) → CallOK Try.prog 8 (immArgs l) [⟨false, .bool, true⟩] [] := by
  intro l hl hw
  match l, hl, hw with
  | [⟨_, x0⟩], rfl, hw => exact f8_ok (MovesOfGame_law x0 (hw _ (List.Mem.head _)))

set_option maxRecDepth 100000 in
theorem MovesOfGame.lifted (os : Os) (started : os.Started) (H : Type) (enc : TypeId × Value → H) :
    ReturnsInHanded {} Try.checked os 8 .any (Rows.fnExactMovesOfGameSpec.pre6 enc Try.prog Try.f8 Rows.fnExactMovesOfGameRow.domain false) (Rows.fnExactMovesOfGameSpec.post enc Try.prog Try.f8 false true false false) := by
  refine returnsInHanded_of_change (C := Try.checked) MovesOfGame.own started (by kernel_rfl) Try.func8
    (ChangeSpec.witness6 (enc := enc) (C := Try.checked) false ⟨#[], #[.agg #[.slice none 0 0, .slice none 0 0, .slice none 0 0]], []⟩ 8 (by kernel_rfl) (by kernel_rfl) (by kernel_rfl) (by kernel_rfl)) ?_
  intro W base args ds gs before hval hW hcnd _
  exact law_run (P := Try.prog) (f := 8) (fn := Try.f8) (s := Rows.fnExactMovesOfGameSpec) (T := 4) (ts := [.st (.pair (.sl (.int .i64)) (.pair (.sl (.int .i64)) (.sl (.sl (.int .i64)))))]) (base := base) (by kernel_rfl) (by kernel_rfl) rfl (by kernel_rfl) (by kernel_rfl) (by kernel_rfl) (fun h => by
    match ds, h with
    | [d0], _ => rfl) MovesOfGame.all hval hW

theorem MovesOfGame.holds : Rows.FnExactMovesOfGameSaid :=
  OpenClaim.holds_of_wide 8 Try.f8 rfl rfl rfl rfl rfl rfl rfl ⟨rfl, rfl, rfl, rfl, rfl⟩ rfl rfl rfl rfl rfl (by kernel_rfl) Try.func8 (by kernel_rfl)
    (of_decide_eq_true (by kernel_rfl)) (by unfold Func.isWrapper; first | (rw [if_pos (by decide +kernel)]; kernel_rfl) | (rw [if_neg (by decide +kernel)]; exact ⟨rfl, rfl⟩))
    (fun os started H enc _ => MovesOfGame.lifted os started H enc)

end Go.Proofs.Ytkejogbikbnafaa
