import Derived.Test.YthkikckjkhnmlaaPlI
import Derived.Test.YthkikckjkhnmlaaRows
namespace Go.Proofs.Ythkikckjkhnmlaa
open Go.ChangeShapes Go.WideShapes Go.ChangeAt Go.RowKit Go.Ide

theorem Try.own : ownKnob Try.prog.godebug = none := by kernel_rfl

theorem normal_all : ∀ l : List TD, l.map TD.t = [.st (.pair (.sl (.int .i64)) (.sl (.int .i64))), .int .i64] → (∀ d ∈ l, WfD d.t d.x) → CallOK Try.prog 3 (immArgs l) [⟨false, .bool, true⟩] [] := by
  intro l hl hw
  match l, hl, hw with
  | [⟨_, x⟩, ⟨_, y⟩], rfl, hw =>
    have h1 := hw _ (List.mem_cons_self)
    exact f3_ok (law_normal (a0 := x) (a1 := y) (Nat.le_trans h1.1.1 (by decide)) (Nat.le_trans h1.2.1 (by decide)))

set_option maxRecDepth 100000 in
theorem normal_lifted (os : Os) (started : os.Started) (H : Type) (enc : TypeId × Value → H) :
    ReturnsInHanded {} Try.checked os 3 .any (Rows.fnExactNormalLoopSpec.pre6 enc Try.prog Try.f3 Rows.fnExactNormalLoopRow.domain false) (Rows.fnExactNormalLoopSpec.post enc Try.prog Try.f3 false true false false) := by
  refine returnsInHanded_of_change (C := Try.checked) Try.own started (by kernel_rfl) Try.func3
    (ChangeSpec.witness6 (enc := enc) (C := Try.checked) false ⟨#[], #[.agg #[.slice none 0 0, .slice none 0 0], .int .i64 0], []⟩ 8 (by kernel_rfl) (by kernel_rfl) (by kernel_rfl) (by kernel_rfl)) ?_
  intro W base args ds gs before hval hW hcnd _
  exact law_run (P := Try.prog) (f := 3) (fn := Try.f3) (s := Rows.fnExactNormalLoopSpec) (T := 4) (ts := [.st (.pair (.sl (.int .i64)) (.sl (.int .i64))), .int .i64]) (base := base) (by kernel_rfl) (by kernel_rfl) rfl (by kernel_rfl) (by kernel_rfl) (by kernel_rfl) (fun h => by
    match ds, h with
    | [d1, d2], _ => rfl) normal_all hval hW

theorem normal_holds : Rows.FnExactNormalLoopSaid :=
  OpenClaim.holds_of_wide 3 Try.f3 rfl rfl rfl rfl rfl rfl rfl ⟨rfl, rfl, rfl, rfl, rfl⟩ rfl rfl rfl rfl rfl (by kernel_rfl) Try.func3 (by kernel_rfl)
    (of_decide_eq_true (by kernel_rfl)) (by unfold Func.isWrapper; first | (rw [if_pos (by decide +kernel)]; kernel_rfl) | (rw [if_neg (by decide +kernel)]; exact ⟨rfl, rfl⟩))
    (fun os started H enc _ => normal_lifted os started H enc)

end Go.Proofs.Ythkikckjkhnmlaa
