import Derived.Test.YtjnkhcgmgkhnaaaGreatDoorJournalLft
set_option linter.all false
/-
 FnJournal returns true for all arguments,and each argument reads afterwards as it read before. No condition.
-/
namespace Go.Proofs.YtjnkhcgmgkhnaaaGreatDoor
open Go.ChangeShapes Go.WideShapes Go.ChangeAt Go.RowKit Go.Ide
theorem Journal.said:Rows.FnJournalSaid:=
 OpenClaim.holds_of_cond 5 Tryz.f5 rfl rfl rfl rfl rfl rfl rfl ⟨rfl,rfl,rfl,rfl,rfl⟩ rfl rfl rfl rfl rfl (by kernel_rfl) Tryz.func5 (by kernel_rfl)
  (of_decide_eq_true (by kernel_rfl)) (by unfold Func.isWrapper;first|(rw [if_pos (by decide+kernel)];kernel_rfl)|(rw [if_neg (by decide+kernel)];exact ⟨rfl,rfl⟩))
  (fun os started H enc _ F=>by rw [OpenClaim.pre_eq_preRow];exact Journal.lifted os started H enc F)
theorem Journal.plain (f:FuncId)(fn:Func)(hf:Tryz.pinned.checked.prog.funcNamed "loop.example/g01357/laws.FnJournal"=some f)(hfn:Tryz.pinned.checked.prog.funcs[f]? =some fn):
 true=Tryz.pinned.checked.prog.looks []∧ ∀(j:Nat) t,fn.params[j]? =some t→Tryz.pinned.checked.prog.wantsStandIn t=false:=by
 obtain rfl:f=5:=Option.some.inj ((show Tryz.prog.funcNamed "loop.example/g01357/laws.FnJournal"=some 5 by kernel_rfl).symm.trans hf) |>.symm
 obtain rfl:fn=Tryz.f5:=(Option.some.inj (Tryz.func5.symm.trans hfn)).symm;refine ⟨by kernel_rfl,fun j t ht=> ?_⟩;rw [Tryz.params5] at ht;obtain rfl:t=22:=by simpa using Array.mem_of_getElem? ht
 exact (show Tryz.prog.wantsStandIn 22=false by kernel_rfl)
theorem Journal.holds:Rows.FnJournalCardSaid:=
 Claim7.holds_tied_plain_at .later [] _ _ _ _ Journal.said (fun _ h=>by cases h) (by kernel_rfl) (fun _ h=>by cases h) fnJournal_row_tie rfl ⟨rfl,rfl⟩ (by kernel_rfl) rfl Journal.plain (by kernel_rfl)
end Go.Proofs.YtjnkhcgmgkhnaaaGreatDoor
