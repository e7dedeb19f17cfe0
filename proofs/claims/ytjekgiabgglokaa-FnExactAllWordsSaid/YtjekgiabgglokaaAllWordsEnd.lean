import Derived.Test.YtjekgiabgglokaaAllWordsPl
import Derived.Test.YtjekgiabgglokaaRows
set_option linter.unusedVariables false
set_option linter.unusedSimpArgs false
set_option linter.unusedSectionVars false
/-
  FnExactAllWords returns true for all arguments, and each argument reads afterwards as it read before. No condition.
-/
namespace Go.Proofs.Ytjekgiabgglokaa
open Go.ChangeShapes Go.WideShapes Go.ChangeAt Go.RowKit Go.Ide

theorem AllWords.own : ownKnob Try.prog.godebug = none := by kernel_rfl

theorem AllWords.all : ∀ l : List TD, l.map TD.t = [.sl (.flt .f32), .sl (.flt .f32), .sl (.flt .f32)] → (∀ d ∈ l, WfD d.t d.x) → CallOK Try.prog 3 (immArgs l) [⟨false, .bool, true⟩] [] := by
  intro l hl hw
  match l, hl, hw with
  | [⟨_, x0⟩, ⟨_, x1⟩, ⟨_, x2⟩], rfl, hw => exact f3_ok (AllWords_law x0 x1 x2 (hw _ (List.Mem.head _)) (hw _ (List.Mem.tail _ (List.Mem.head _))) (hw _ (List.Mem.tail _ (List.Mem.tail _ (List.Mem.head _)))))

set_option maxRecDepth 100000 in
theorem AllWords.lifted (os : Os) (started : os.Started) (H : Type) (enc : TypeId × Value → H) :
    ReturnsInHanded {} Try.checked os 3 .any (Rows.fnExactAllWordsSpec.pre6 enc Try.prog Try.f3 Rows.fnExactAllWordsRow.domain false) (Rows.fnExactAllWordsSpec.post enc Try.prog Try.f3 false true false false) := by
  refine returnsInHanded_of_change (C := Try.checked) AllWords.own started (by kernel_rfl) Try.func3
    (ChangeSpec.witness6 (enc := enc) (C := Try.checked) false ⟨#[], #[.slice none 0 0, .slice none 0 0, .slice none 0 0], []⟩ 8 (by kernel_rfl) (by kernel_rfl) (by kernel_rfl) (by kernel_rfl)) ?_
  intro W base args ds gs before hval hW hcnd _
  exact law_run (P := Try.prog) (f := 3) (fn := Try.f3) (s := Rows.fnExactAllWordsSpec) (T := 4) (ts := [.sl (.flt .f32), .sl (.flt .f32), .sl (.flt .f32)]) (base := base) (by kernel_rfl) (by kernel_rfl) rfl (by kernel_rfl) (by kernel_rfl) (by kernel_rfl) (fun h => by
    match ds, h with
    | [d0, d1, d2], _ => rfl) AllWords.all hval trivial hW

theorem AllWords.holds : Rows.FnExactAllWordsSaid :=
  OpenClaim.holds_of_wide 3 Try.f3 rfl rfl rfl rfl rfl rfl rfl ⟨rfl, rfl, rfl, rfl, rfl⟩ rfl rfl rfl rfl rfl (by kernel_rfl) Try.func3 (by kernel_rfl)
    (of_decide_eq_true (by kernel_rfl)) (by unfold Func.isWrapper; first | (rw [if_pos (by decide +kernel)]; kernel_rfl) | (rw [if_neg (by decide +kernel)]; exact ⟨rfl, rfl⟩))
    (fun os started H enc _ => AllWords.lifted os started H enc)

end Go.Proofs.Ytjekgiabgglokaa
