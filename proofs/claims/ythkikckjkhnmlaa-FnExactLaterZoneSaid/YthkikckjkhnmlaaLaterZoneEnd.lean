import Derived.Test.YthkikckjkhnmlaaLaterZonePl
import Derived.Test.YthkikckjkhnmlaaRows
set_option linter.unusedVariables false
set_option linter.unusedSimpArgs false
/-
  FnExactLaterZone returns true for all arguments, and each argument reads afterwards as it read before. No condition.
-/
namespace Go.Proofs.Ythkikckjkhnmlaa
open Go.ChangeShapes Go.WideShapes Go.ChangeAt Go.RowKit Go.Ide

theorem LaterZone.own : ownKnob Try.prog.godebug = none := by kernel_rfl

theorem LaterZone.all : ∀ l : List TD, l.map TD.t = [.st (.pair (.int .i64) (.sl (.int .i64)))] → (∀ d ∈ l, WfD d.t d.x) → CallOK Try.prog 5 (immArgs l) [⟨false, .bool, true⟩] [] := by
  intro l hl hw
  match l, hl, hw with
  | [⟨_, x0⟩], rfl, hw => exact f5_ok (LaterZone_law x0 (hw _ (List.Mem.head _)))

set_option maxRecDepth 100000 in
theorem LaterZone.lifted (os : Os) (started : os.Started) (H : Type) (enc : TypeId × Value → H) :
    ReturnsInHanded {} Try.checked os 5 .any (Rows.fnExactLaterZoneSpec.pre6 enc Try.prog Try.f5 Rows.fnExactLaterZoneRow.domain false) (Rows.fnExactLaterZoneSpec.post enc Try.prog Try.f5 false true false false) := by
  refine returnsInHanded_of_change (C := Try.checked) LaterZone.own started (by kernel_rfl) Try.func5
    (ChangeSpec.witness6 (enc := enc) (C := Try.checked) false ⟨#[], #[.agg #[.int .i64 0, .slice none 0 0]], []⟩ 8 (by kernel_rfl) (by kernel_rfl) (by kernel_rfl) (by kernel_rfl)) ?_
  intro W base args ds gs before hval hW hcnd _
  exact law_run (P := Try.prog) (f := 5) (fn := Try.f5) (s := Rows.fnExactLaterZoneSpec) (T := 4) (ts := [.st (.pair (.int .i64) (.sl (.int .i64)))]) (base := base) (by kernel_rfl) (by kernel_rfl) rfl (by kernel_rfl) (by kernel_rfl) (by kernel_rfl) (fun h => by
    match ds, h with
    | [d0], _ => rfl) LaterZone.all hval hW

theorem LaterZone.holds : Rows.FnExactLaterZoneSaid :=
  OpenClaim.holds_of_wide 5 Try.f5 rfl rfl rfl rfl rfl rfl rfl ⟨rfl, rfl, rfl, rfl, rfl⟩ rfl rfl rfl rfl rfl (by kernel_rfl) Try.func5 (by kernel_rfl)
    (of_decide_eq_true (by kernel_rfl)) (by unfold Func.isWrapper; first | (rw [if_pos (by decide +kernel)]; kernel_rfl) | (rw [if_neg (by decide +kernel)]; exact ⟨rfl, rfl⟩))
    (fun os started H enc _ => LaterZone.lifted os started H enc)

end Go.Proofs.Ythkikckjkhnmlaa
