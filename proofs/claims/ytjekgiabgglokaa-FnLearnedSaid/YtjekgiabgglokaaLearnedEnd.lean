import Derived.Test.YtjekgiabgglokaaLearnedPlB
import Derived.Test.YtjekgiabgglokaaRows
set_option linter.unusedVariables false
set_option linter.unusedSimpArgs false
set_option linter.unusedSectionVars false
/-
 FnLearned returns true for all arguments,and each argument reads afterwards as it read before. No condition.
-/
namespace Go.Proofs.Ytjekgiabgglokaa
open Go.ChangeShapes Go.WideShapes Go.ChangeAt Go.RowKit Go.Ide
theorem Learned.own:ownKnob Try.prog.godebug=none:=by kernel_rfl
theorem Learned.all: ∀l:List TD,l.map TD.t=[.sl (.int .u8),.sl (.int .u8)]→(∀d∈l,WfD d.t d.x)→CallOK Try.prog 5 (immArgs l) [⟨false,.bool,true⟩] []:=by
 intro l hl hw
 match l,hl,hw with
 |[⟨_,x0⟩,⟨_,x1⟩],rfl,hw=>exact f5_ok (FnLearned_law x0 x1 (hw _ (List.Mem.head _)) (hw _ (List.Mem.tail _ (List.Mem.head _))))
set_option maxRecDepth 100000 in
theorem Learned.lifted (os:Os)(started:os.Started)(H:Type)(enc:TypeId×Value→H):
 ReturnsInHanded {} Try.checked os 5 .any (Rows.fnLearnedSpec.pre6 enc Try.prog Try.f5 Rows.fnLearnedRow.domain false) (Rows.fnLearnedSpec.post enc Try.prog Try.f5 false true false false):=by
 refine returnsInHanded_of_change (C:=Try.checked) Learned.own started (by kernel_rfl) Try.func5
  (ChangeSpec.witness6 (enc:=enc) (C:=Try.checked) false ⟨#[],#[.slice none 0 0,.slice none 0 0],[]⟩ 8 (by kernel_rfl) (by kernel_rfl) (by kernel_rfl) (by kernel_rfl)) ?_
 intro W base args ds gs before hval hW hcnd _;exact law_run (P:=Try.prog) (f:=5) (fn:=Try.f5) (s:=Rows.fnLearnedSpec) (T:=4) (ts:=[.sl (.int .u8),.sl (.int .u8)]) (base:=base) (by kernel_rfl) (by kernel_rfl) rfl (by kernel_rfl) (by kernel_rfl) (by kernel_rfl) (fun h=>by
  match ds,h with
  |[d0,d1],_=>rfl) Learned.all hval trivial hW
theorem Learned.holds:Rows.FnLearnedSaid:=
 OpenClaim.holds_of_wide 5 Try.f5 rfl rfl rfl rfl rfl rfl rfl ⟨rfl,rfl,rfl,rfl,rfl⟩ rfl rfl rfl rfl rfl (by kernel_rfl) Try.func5 (by kernel_rfl)
  (of_decide_eq_true (by kernel_rfl)) (by unfold Func.isWrapper;first|(rw [if_pos (by decide+kernel)];kernel_rfl)|(rw [if_neg (by decide+kernel)];exact ⟨rfl,rfl⟩))
  (fun os started H enc _=>Learned.lifted os started H enc)
end Go.Proofs.Ytjekgiabgglokaa
