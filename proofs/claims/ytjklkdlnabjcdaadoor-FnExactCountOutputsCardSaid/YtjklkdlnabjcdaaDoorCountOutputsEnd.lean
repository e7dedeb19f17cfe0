import Derived.Test.YtjklkdlnabjcdaaDoorCountOutputsPl
import Derived.Test.YtjklkdlnabjcdaaDoorCards
import Derived.Test.YtjklkdlnabjcdaaDoorTie
import Derived.WalkKit
import Derived.ProofKit
import Derived.OpenShut
import Derived.Deep.DeepHandedRow
import Derived.Lib.LaidTab
set_option linter.unusedVariables false
set_option linter.unusedSimpArgs false
set_option linter.unusedSectionVars false
/-
  FnExactCountOutputs returns true for all arguments, and each argument reads afterwards as it read before. No condition.
-/
namespace Go.Proofs.YtjklkdlnabjcdaaDoor
open Go.ChangeShapes Go.WideShapes Go.ChangeAt Go.RowKit Go.Ide

theorem CountOutputs.own : ownKnob Tryd.prog.godebug = none := by kernel_rfl

theorem CountOutputs.all : ∀ l : List TD, l.map TD.t = [.str] → (∀ d ∈ l, WfD d.t d.x) → CallOK Tryd.prog 11 (immArgs l) [⟨false, .bool, true⟩] [] := by
  intro l hl hw
  match l, hl, hw with
  | [⟨_, x0⟩], rfl, hw => exact f11_ok (CountOutputs_law x0 (hw _ (List.Mem.head _)))

/-- A world that holds what is laid. -/
noncomputable def CountOutputs.world (os : Os) : World :=
  let w0 := World.holding Tryd.prog os ⟨#[], #[], []⟩
  let put (h : Array Obj) (g : Nat) (cs : Array Value) : Array Obj := h.modify g fun
    | .cells _ t frozen => .cells cs t frozen
    | o => o
  let h1 := put w0.heap 4 (Go.Pinned.utf8FirstZ.map fun z : Nat => Value.int .u8 (z : Int)).toArray
  let h2 := put h1 5 (([128, 191, 160, 191, 128, 159, 144, 191, 128, 143] ++ List.replicate 22 0 : List Nat).map fun z : Nat => Value.int .u8 (z : Int)).toArray
  { w0 with heap := h2 }

theorem CountOutputs.met (os : Os) : laidMet Tryd.prog Rows.fnExactCountOutputsRow.laid ((CountOutputs.world os).forCall (fun _ _ => 0) ⟨#[], #[.string ⟨#[]⟩], []⟩).memory :=
  laidMet_of_run' 8 (by kernel_rfl) (by kernel_rfl)

theorem CountOutputs.reads (os : Os) {H : Type} (enc : TypeId × Value → H) : ∃ places, DataW.whole enc Tryd.prog ((CountOutputs.world os).forCall (fun _ _ => 0) ⟨#[], #[.string ⟨#[]⟩], []⟩).memory Tryd.f11.params.toList Rows.fnExactCountOutputsSpec.vars false (#[.string ⟨#[]⟩] : Array Value).toList 8 = some ([.lit (.string [])], [], places) :=
  ⟨[], by kernel_rfl⟩

set_option maxRecDepth 100000 in
theorem CountOutputs.lifted (os : Os) (started : os.Started) (H : Type) (enc : TypeId × Value → H) (F : Stop.Interp) :
    ReturnsInHanded {} Tryd.checked os 11 .any ((OpenSpec.ofChange Rows.fnExactCountOutputsSpec).preRow enc Tryd.prog Tryd.f11 Rows.fnExactCountOutputsRow.domain false Rows.fnExactCountOutputsRow.laid) (((OpenSpec.ofChange Rows.fnExactCountOutputsSpec).at F).post enc Tryd.prog Tryd.f11 false true false false) := by
  obtain ⟨places, hx⟩ := CountOutputs.reads os enc
  refine returnsInHanded_of_row (C := Tryd.checked) (s := OpenSpec.ofChange Rows.fnExactCountOutputsSpec) CountOutputs.own started (by kernel_rfl) Tryd.func11
    (witness_row_at (enc := enc) (C := Tryd.checked) false (CountOutputs.world os) #[.string ⟨#[]⟩] rfl (by kernel_rfl) (by kernel_rfl) (by kernel_rfl)
      (OpenSpec.preRow_of_cond 8 hx (by kernel_rfl) (fun k hk => by cases hk) (by kernel_rfl) (CountOutputs.met os))) ?_
  intro W base args ds gs before hval hW _ _ _ hL hsh _
  have hgl : Glob.ok W (There W) := by
    obtain ⟨m, hm⟩ := Tryd.laysM146.s1_3 W hsh
    have hm : W.cell? ⟨0, 0, none⟩ = some (.int .i64 m) := hm
    refine ⟨?_, m, hm⟩
    show 0 < W.heap.size
    apply Nat.pos_of_ne_zero
    intro h0
    have : W.heap[0]? = none := by rw [Array.getElem?_eq_none]; omega
    simp [World.cell?, this] at hm
  exact law_run (P := Tryd.prog) (f := 11) (fn := Tryd.f11) (s := Rows.fnExactCountOutputsSpec) (T := 4) (ts := [.str]) (base := base) (by kernel_rfl) (by kernel_rfl) rfl (by kernel_rfl) (by kernel_rfl) (by kernel_rfl) (fun h => by
    match ds, h with
    | [d0], _ => rfl) CountOutputs.all hval hgl hW

theorem CountOutputs.said : Rows.FnExactCountOutputsSaid :=
  OpenClaim.holds_of_cond 11 Tryd.f11 rfl rfl rfl rfl rfl rfl rfl ⟨rfl, rfl, rfl, rfl, rfl⟩ rfl rfl rfl rfl rfl (by kernel_rfl) Tryd.func11 (by kernel_rfl)
    (of_decide_eq_true (by kernel_rfl)) (by unfold Func.isWrapper; first | (rw [if_pos (by decide +kernel)]; kernel_rfl) | (rw [if_neg (by decide +kernel)]; exact ⟨rfl, rfl⟩))
    (fun os started H enc _ F => by rw [OpenClaim.pre_eq_preRow]; exact CountOutputs.lifted os started H enc F)

theorem CountOutputs.plain (f : FuncId) (fn : Func) (hf : Tryd.pinned.checked.prog.funcNamed "loop.example/g01357/laws.FnExactCountOutputs" = some f) (hfn : Tryd.pinned.checked.prog.funcs[f]? = some fn) :
    true = Tryd.pinned.checked.prog.looks [] ∧ ∀ (j : Nat) t, fn.params[j]? = some t → Tryd.pinned.checked.prog.wantsStandIn t = false := by
  obtain rfl : f = 11 := Option.some.inj ((show Tryd.prog.funcNamed "loop.example/g01357/laws.FnExactCountOutputs" = some 11 by kernel_rfl).symm.trans hf) |>.symm
  obtain rfl : fn = Tryd.f11 := (Option.some.inj (Tryd.func11.symm.trans hfn)).symm
  refine ⟨by kernel_rfl, fun j t ht => ?_⟩
  rw [Tryd.params11] at ht
  obtain rfl : t = 9 := by simpa using Array.mem_of_getElem? ht
  exact (show Tryd.prog.wantsStandIn 9 = false by kernel_rfl)

theorem CountOutputs.holds : Rows.FnExactCountOutputsCardSaid :=
  Claim7.holds_tied_plain_at .later [] _ _ _ _ CountOutputs.said (fun _ h => by cases h) (by kernel_rfl) (fun _ h => by cases h) fnExactCountOutputs_row_tie rfl ⟨rfl, rfl⟩ (by kernel_rfl) rfl CountOutputs.plain (by kernel_rfl)

end Go.Proofs.YtjklkdlnabjcdaaDoor
