import Derived.Test.YtcdcholgpdladaaSameDeskPl
import Derived.Test.YtcdcholgpdladaaRows
set_option linter.unusedVariables false
set_option linter.unusedSimpArgs false
set_option linter.unusedSectionVars false
/-
  FnExactSameDesk returns true for all arguments, and each argument reads afterwards as it read before. No condition.
-/
namespace Go.Proofs.Ytcdcholgpdladaa
open Go.ChangeShapes Go.WideShapes Go.ChangeAt Go.RowKit Go.Ide

theorem SameDesk.own : ownKnob Try.prog.godebug = none := by kernel_rfl

theorem SameDesk.all : ∀ l : List TD, l.map TD.t = [.st (.pair (.st (.pair (.int .i64) (.pair (.int .i64) (.pair (.sl (.st (.pair (.int .i64) (.pair (.int .i64) (.pair (.int .i64) (.int .i64)))))) (.pair (.sl (.int .i64)) (.sl (.int .i64))))))) (.pair (.st (.pair (.int .i64) (.pair (.int .i64) (.pair (.sl (.int .i64)) (.sl .bool))))) (.pair (.st (.pair (.int .i64) (.pair (.int .i64) (.sl (.st (.pair (.int .i64) (.pair (.int .i64) (.pair (.int .i64) (.int .i64))))))))) (.sl (.int .i64))))), .st (.pair (.st (.pair (.int .i64) (.pair (.int .i64) (.pair (.sl (.st (.pair (.int .i64) (.pair (.int .i64) (.pair (.int .i64) (.int .i64)))))) (.pair (.sl (.int .i64)) (.sl (.int .i64))))))) (.pair (.st (.pair (.int .i64) (.pair (.int .i64) (.pair (.sl (.int .i64)) (.sl .bool))))) (.pair (.st (.pair (.int .i64) (.pair (.int .i64) (.sl (.st (.pair (.int .i64) (.pair (.int .i64) (.pair (.int .i64) (.int .i64))))))))) (.sl (.int .i64)))))] → (∀ d ∈ l, WfD d.t d.x) → CallOK Try.prog 4 (immArgs l) [⟨false, .bool, true⟩] [] := by
  intro l hl hw
  match l, hl, hw with
  | [⟨_, x0⟩, ⟨_, x1⟩], rfl, hw => exact f4_ok (SameDesk_law x0 x1 (hw _ (List.Mem.head _)) (hw _ (List.Mem.tail _ (List.Mem.head _))))

set_option maxRecDepth 100000 in
theorem SameDesk.lifted (os : Os) (started : os.Started) (H : Type) (enc : TypeId × Value → H) :
    ReturnsInHanded {} Try.checked os 4 .any (Rows.fnExactSameDeskSpec.pre6 enc Try.prog Try.f4 Rows.fnExactSameDeskRow.domain false) (Rows.fnExactSameDeskSpec.post enc Try.prog Try.f4 false true false false) := by
  refine returnsInHanded_of_change (C := Try.checked) SameDesk.own started (by kernel_rfl) Try.func4
    (ChangeSpec.witness6 (enc := enc) (C := Try.checked) false ⟨#[], #[.agg #[.int .i64 0, .int .i64 0, .slice none 0 0, .slice none 0 0, .slice none 0 0, .int .i64 0, .int .i64 0, .slice none 0 0, .slice none 0 0, .int .i64 0, .int .i64 0, .slice none 0 0, .slice none 0 0], .agg #[.int .i64 0, .int .i64 0, .slice none 0 0, .slice none 0 0, .slice none 0 0, .int .i64 0, .int .i64 0, .slice none 0 0, .slice none 0 0, .int .i64 0, .int .i64 0, .slice none 0 0, .slice none 0 0]], []⟩ 8 (by kernel_rfl) (by kernel_rfl) (by kernel_rfl) (by kernel_rfl)) ?_
  intro W base args ds gs before hval hW hcnd _
  exact law_run (P := Try.prog) (f := 4) (fn := Try.f4) (s := Rows.fnExactSameDeskSpec) (T := 4) (ts := [.st (.pair (.st (.pair (.int .i64) (.pair (.int .i64) (.pair (.sl (.st (.pair (.int .i64) (.pair (.int .i64) (.pair (.int .i64) (.int .i64)))))) (.pair (.sl (.int .i64)) (.sl (.int .i64))))))) (.pair (.st (.pair (.int .i64) (.pair (.int .i64) (.pair (.sl (.int .i64)) (.sl .bool))))) (.pair (.st (.pair (.int .i64) (.pair (.int .i64) (.sl (.st (.pair (.int .i64) (.pair (.int .i64) (.pair (.int .i64) (.int .i64))))))))) (.sl (.int .i64))))), .st (.pair (.st (.pair (.int .i64) (.pair (.int .i64) (.pair (.sl (.st (.pair (.int .i64) (.pair (.int .i64) (.pair (.int .i64) (.int .i64)))))) (.pair (.sl (.int .i64)) (.sl (.int .i64))))))) (.pair (.st (.pair (.int .i64) (.pair (.int .i64) (.pair (.sl (.int .i64)) (.sl .bool))))) (.pair (.st (.pair (.int .i64) (.pair (.int .i64) (.sl (.st (.pair (.int .i64) (.pair (.int .i64) (.pair (.int .i64) (.int .i64))))))))) (.sl (.int .i64)))))]) (base := base) (by kernel_rfl) (by kernel_rfl) rfl (by kernel_rfl) (by kernel_rfl) (by kernel_rfl) (fun h => by
    match ds, h with
    | [d0, d1], _ => rfl) SameDesk.all hval hW

theorem SameDesk.holds : Rows.FnExactSameDeskSaid :=
  OpenClaim.holds_of_wide 4 Try.f4 rfl rfl rfl rfl rfl rfl rfl ⟨rfl, rfl, rfl, rfl, rfl⟩ rfl rfl rfl rfl rfl (by kernel_rfl) Try.func4 (by kernel_rfl)
    (of_decide_eq_true (by kernel_rfl)) (by unfold Func.isWrapper; first | (rw [if_pos (by decide +kernel)]; kernel_rfl) | (rw [if_neg (by decide +kernel)]; exact ⟨rfl, rfl⟩))
    (fun os started H enc _ => SameDesk.lifted os started H enc)

end Go.Proofs.Ytcdcholgpdladaa
