import Derived.Test.YtjnkhcgmgkhnaaaGreatDoorTopLft
set_option linter.unusedVariables false
set_option linter.unusedSimpArgs false
set_option linter.unusedSectionVars false
/-
 FnTop returns true for all arguments,and each argument reads afterwards as it read before. No condition.
-/
namespace Go.Proofs.YtjnkhcgmgkhnaaaGreatDoor
open Go.ChangeShapes Go.WideShapes Go.ChangeAt Go.RowKit Go.Ide
theorem Top.said:Rows.FnTopSaid:=
 OpenClaim.holds_of_cond 3 Tryz.f3 rfl rfl rfl rfl rfl rfl rfl ⟨rfl,rfl,rfl,rfl,rfl⟩ rfl rfl rfl rfl rfl (by kernel_rfl) Tryz.func3 (by kernel_rfl)
  (of_decide_eq_true (by kernel_rfl)) (by unfold Func.isWrapper;first|(rw [if_pos (by decide+kernel)];kernel_rfl)|(rw [if_neg (by decide+kernel)];exact ⟨rfl,rfl⟩))
  (fun os started H enc _ F=>by rw [OpenClaim.pre_eq_preRow];exact Top.lifted os started H enc F)
theorem Top.plain (f:FuncId)(fn:Func)(hf:Tryz.pinned.checked.prog.funcNamed "loop.example/g01357/laws.FnTop"=some f)(hfn:Tryz.pinned.checked.prog.funcs[f]? =some fn):
 true=Tryz.pinned.checked.prog.looks []∧ ∀(j:Nat) t,fn.params[j]? =some t→Tryz.pinned.checked.prog.wantsStandIn t=false:=by
 obtain rfl:f=3:=Option.some.inj ((show Tryz.prog.funcNamed "loop.example/g01357/laws.FnTop"=some 3 by kernel_rfl).symm.trans hf) |>.symm
 obtain rfl:fn=Tryz.f3:=(Option.some.inj (Tryz.func3.symm.trans hfn)).symm;refine ⟨by kernel_rfl,fun j t ht=> ?_⟩;rw [Tryz.params3] at ht;obtain rfl:t=22:=by simpa using Array.mem_of_getElem? ht
 exact (show Tryz.prog.wantsStandIn 22=false by kernel_rfl)
theorem Top.holds:Rows.FnTopCardSaid:=
 Claim7.holds_tied_plain_at .later [] _ _ _ _ Top.said (fun _ h=>by cases h) (by kernel_rfl) (fun _ h=>by cases h) fnTop_row_tie rfl ⟨rfl,rfl⟩ (by kernel_rfl) rfl Top.plain (by kernel_rfl)
end Go.Proofs.YtjnkhcgmgkhnaaaGreatDoor
