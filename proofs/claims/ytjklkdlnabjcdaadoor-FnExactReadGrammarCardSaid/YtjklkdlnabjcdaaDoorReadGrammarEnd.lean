import Derived.Test.YtjklkdlnabjcdaaDoorReadGrammarPl
import Derived.Test.YtjklkdlnabjcdaaDoorCards
import Derived.Test.YtjklkdlnabjcdaaDoorTie
import Derived.Lib.LaidU8
import Derived.WalkKit
import Derived.ProofKit
import Derived.OpenShut
import Derived.Deep.DeepHandedRow
import Derived.Lib.LaidTab
set_option linter.unusedVariables false
set_option linter.unusedSimpArgs false
set_option linter.unusedSectionVars false
/-
  FnExactReadGrammar returns true for all arguments, and each argument reads afterwards as it read before. No condition.
-/
namespace Go.Proofs.YtjklkdlnabjcdaaDoor
open Go.ChangeShapes Go.WideShapes Go.ChangeAt Go.RowKit Go.Ide

theorem ReadGrammar.own : ownKnob Tryd.prog.godebug = none := by kernel_rfl

theorem ReadGrammar.all : ∀ l : List TD, l.map TD.t = [.str] → (∀ d ∈ l, WfD d.t d.x) → CallOK Tryd.prog 9 (immArgs l) [⟨false, .bool, true⟩] [] := by
  intro l hl hw
  match l, hl, hw with
  | [⟨_, x0⟩], rfl, hw => exact f9_ok (ReadGrammar_law x0 (hw _ (List.Mem.head _)))

/-- A world that holds what is laid. -/
noncomputable def ReadGrammar.world (os : Os) : World :=
  let w0 := World.holding Tryd.prog os ⟨#[], #[], []⟩
  let put (h : Array Obj) (g : Nat) (cs : Array Value) : Array Obj := h.modify g fun
    | .cells _ t frozen => .cells cs t frozen
    | o => o
  let h1 := put w0.heap 1 pow10Cells
  let h2 := put h1 2 (([0, 1, 28, 2, 29, 14, 24, 3, 30, 22, 20, 15, 25, 17, 4, 8, 31, 27, 13, 23, 21, 19, 16, 7, 26, 12, 18, 6, 11, 5, 10, 9] : List Nat).map fun z : Nat => Value.int .u8 (z : Int)).toArray
  let h3 := put h2 3 (([0, 1, 56, 2, 57, 49, 28, 3, 61, 58, 42, 50, 38, 29, 17, 4, 62, 47, 59, 36, 45, 43, 51, 22, 53, 39, 33, 30, 24, 18, 12, 5, 63, 55, 48, 27, 60, 41, 37, 16, 46, 35, 44, 21, 52, 32, 23, 11, 54, 26, 40, 15, 34, 20, 31, 10, 25, 14, 19, 9, 13, 8, 7, 6] : List Nat).map fun z : Nat => Value.int .u8 (z : Int)).toArray
  let h4 := put h3 4 (Go.Pinned.utf8FirstZ.map fun z : Nat => Value.int .u8 (z : Int)).toArray
  let h5 := put h4 5 (([128, 191, 160, 191, 128, 159, 144, 191, 128, 143] ++ List.replicate 22 0 : List Nat).map fun z : Nat => Value.int .u8 (z : Int)).toArray
  let h6 := put h5 6 #[.iface 213 (.pointer (some ⟨w0.heap.size, 0, none⟩))]
  let h7 := put h6 7 #[.iface 213 (.pointer (some ⟨w0.heap.size + 1, 0, none⟩))]
  { w0 with heap := (h7.push (.cells #[.string ⟨#[105, 110, 118, 97, 108, 105, 100, 32, 115, 121, 110, 116, 97, 120]⟩] 215)).push (.cells #[.string ⟨#[118, 97, 108, 117, 101, 32, 111, 117, 116, 32, 111, 102, 32, 114, 97, 110, 103, 101]⟩] 215) }

theorem ReadGrammar.met (os : Os) : laidMet Tryd.prog Rows.fnExactReadGrammarRow.laid ((ReadGrammar.world os).forCall (fun _ _ => 0) ⟨#[], #[.string ⟨#[]⟩], []⟩).memory :=
  laidMet_of_run' 8 (by kernel_rfl) (by kernel_rfl)

theorem ReadGrammar.reads (os : Os) {H : Type} (enc : TypeId × Value → H) : ∃ places, DataW.whole enc Tryd.prog ((ReadGrammar.world os).forCall (fun _ _ => 0) ⟨#[], #[.string ⟨#[]⟩], []⟩).memory Tryd.f9.params.toList Rows.fnExactReadGrammarSpec.vars false (#[.string ⟨#[]⟩] : Array Value).toList 8 = some ([.lit (.string [])], [], places) :=
  ⟨[], by kernel_rfl⟩

theorem ReadGrammar.iface {H : Type} {enc : TypeId × Value → H} {P : Program} {t : TypeId} {ms : Array (String × TypeId)} (ht : P.underlying t = some (.interface ms)) {W : World} {base : Nat} {sp : Nat → Bool} {hd : Bool} {fuel : Nat} {cs : List Value} {y : DataW H × List MemPlace}
    (h : DataW.trod enc P W base sp hd fuel t cs = some y) : ∃ v, cs = [v] ∧ (v = .nilIface ∨ ∃ u x, v = .iface u x) := by
  cases fuel with
  | zero => simp [DataW.trod] at h
  | succ n =>
    match cs, h with
    | [], h => simp [DataW.trod, ht] at h
    | [v], h =>
      refine ⟨v, rfl, ?_⟩
      cases v <;> first | exact .inl rfl | exact .inr ⟨_, _, rfl⟩ | simp [DataW.trod, ht] at h
    | _ :: _ :: _, h => simp [DataW.trod, ht] at h

theorem ReadGrammar.errV {W : World} {l : List (String × DataW Unit)} {n : String} {d : DataW Unit} {g : Nat} {ms : Array (String × TypeId)} (h : laidMet Tryd.prog l W) (hm : (n, d) ∈ l) (hg : Tryd.prog.globalNamed n = some g)
    (hu : ((Tryd.prog.globals[g]?).map (·.type)).bind Tryd.prog.underlying = some (.interface ms)) : g < W.heap.size ∧ ErrV W g := by
  obtain ⟨g', t, cs, fuel, p, h1, h2, h3, h4⟩ := Lib.laidMet.reads (P := Tryd.prog) (w := W) (l := l) h hm
  obtain rfl := Option.some.inj (hg.symm.trans h1)
  rw [h2, Option.bind_some] at hu
  obtain ⟨v, hv, hi⟩ := ReadGrammar.iface (ms := ms) hu h4
  unfold World.var? at h3
  rw [hg, Option.bind_some] at h3
  split at h3
  · rename_i c t' fr hh
    injection h3 with h3
    subst h3
    refine ⟨(Array.getElem?_eq_some_iff.1 hh).1, v, ?_, hi⟩
    have : c[0]? = some v := by
      rw [← Array.getElem?_toList, hv]; rfl
    simp [World.cell?, hh, this]
  · cases h3

theorem ReadGrammar.powTab {W : World} {l : List (String × DataW Unit)} (h : laidMet Tryd.prog l W) (hm : ("internal/strconv.uint64pow10", Rows.laid_internal_strconv_uint64pow10) ∈ l) : ∃ t fr, W.heap[1]? = some (.cells pow10Cells t fr) := by
  obtain ⟨g, t, cs, fuel, p, h1, h2, h3, h4⟩ := Lib.laidMet.reads (P := Tryd.prog) (w := W) (l := l) h hm
  have e1 : Tryd.prog.globalNamed "internal/strconv.uint64pow10" = some 1 := by kernel_rfl
  obtain rfl := Option.some.inj (e1.symm.trans h1)
  have hcs : cs.toList = Lib.pow10Tab.map fun z => Value.int .u64 z := by
    rw [show Rows.laid_internal_strconv_uint64pow10 = Lib.tabData .u64 Lib.pow10Tab by kernel_rfl] at h4
    obtain rfl : 184 = t := Option.some.inj ((show (Tryd.prog.globals[1]?).map (·.type) = some 184 by kernel_rfl).symm.trans h2)
    exact Lib.cells_of_tab (P := Tryd.prog) (n := 20) (e := 172) (by kernel_rfl) (by kernel_rfl) (by kernel_rfl) (by kernel_rfl) h4
  unfold World.var? at h3
  rw [e1, Option.bind_some] at h3
  split at h3
  · rename_i c t' fr hh
    injection h3 with h3
    subst h3
    refine ⟨t', fr, ?_⟩
    rw [hh]
    have : c = pow10Cells := by
      apply Array.toList_inj.1
      rw [hcs]
      unfold pow10Cells Lib.pow10Tab
      rw [List.map_map]
      rfl
    rw [this]
  · cases h3

set_option maxRecDepth 100000 in
theorem ReadGrammar.lifted (os : Os) (started : os.Started) (H : Type) (enc : TypeId × Value → H) (F : Stop.Interp) :
    ReturnsInHanded {} Tryd.checked os 9 .any ((OpenSpec.ofChange Rows.fnExactReadGrammarSpec).preRow enc Tryd.prog Tryd.f9 Rows.fnExactReadGrammarRow.domain false Rows.fnExactReadGrammarRow.laid) (((OpenSpec.ofChange Rows.fnExactReadGrammarSpec).at F).post enc Tryd.prog Tryd.f9 false true false false) := by
  obtain ⟨places, hx⟩ := ReadGrammar.reads os enc
  refine returnsInHanded_of_row (C := Tryd.checked) (s := OpenSpec.ofChange Rows.fnExactReadGrammarSpec) ReadGrammar.own started (by kernel_rfl) Tryd.func9
    (witness_row_at (enc := enc) (C := Tryd.checked) false (ReadGrammar.world os) #[.string ⟨#[]⟩] rfl (by kernel_rfl) (by kernel_rfl) (by kernel_rfl)
      (OpenSpec.preRow_of_cond 8 hx (by kernel_rfl) (fun k hk => by cases hk) (by kernel_rfl) (ReadGrammar.met os))) ?_
  intro W base args ds gs before hval hW _ _ _ hL hsh _
  have hgl : Glob.ok W (There W) := by
    obtain ⟨m, hm⟩ : ∃ m, W.cell? ⟨0, 0, none⟩ = some (.int .i64 m) := Go.Proofs.cell_of_shapedOpen_int (zero := #[.int .i64 0]) (t := 3) hsh (of_decide_eq_true (by kernel_rfl)) (by kernel_rfl) rfl (by kernel_rfl) (by kernel_rfl) Tryd.underlying3
    obtain ⟨t, fr, ht⟩ := ReadGrammar.powTab (W := W) (l := Rows.fnExactReadGrammarRow.laid) hL (.tail _ (.tail _ (.head _)))
    refine ⟨⟨⟨?_, m, hm⟩, (Array.getElem?_eq_some_iff.1 ht).1, t, fr, ht⟩, ReadGrammar.errV (W := W) (l := Rows.fnExactReadGrammarRow.laid) (g := 6) hL (.tail _ (.tail _ (.tail _ (.tail _ (.tail _ (.head _)))))) (by kernel_rfl) Tryd.underlying84, ReadGrammar.errV (W := W) (l := Rows.fnExactReadGrammarRow.laid) (g := 7) hL (.tail _ (.tail _ (.tail _ (.tail _ (.head _))))) (by kernel_rfl) Tryd.underlying84⟩
    show 0 < W.heap.size
    apply Nat.pos_of_ne_zero
    intro h0
    have : W.heap[0]? = none := by rw [Array.getElem?_eq_none]; omega
    simp [World.cell?, this] at hm
  exact law_run (P := Tryd.prog) (f := 9) (fn := Tryd.f9) (s := Rows.fnExactReadGrammarSpec) (T := 4) (ts := [.str]) (base := base) (by kernel_rfl) (by kernel_rfl) rfl (by kernel_rfl) (by kernel_rfl) (by kernel_rfl) (fun h => by
    match ds, h with
    | [d0], _ => rfl) ReadGrammar.all hval hgl hW

theorem ReadGrammar.said : Rows.FnExactReadGrammarSaid :=
  OpenClaim.holds_of_cond 9 Tryd.f9 rfl rfl rfl rfl rfl rfl rfl ⟨rfl, rfl, rfl, rfl, rfl⟩ rfl rfl rfl rfl rfl (by kernel_rfl) Tryd.func9 (by kernel_rfl)
    (of_decide_eq_true (by kernel_rfl)) (by unfold Func.isWrapper; first | (rw [if_pos (by decide +kernel)]; kernel_rfl) | (rw [if_neg (by decide +kernel)]; exact ⟨rfl, rfl⟩))
    (fun os started H enc _ F => by rw [OpenClaim.pre_eq_preRow]; exact ReadGrammar.lifted os started H enc F)

theorem ReadGrammar.plain (f : FuncId) (fn : Func) (hf : Tryd.pinned.checked.prog.funcNamed "loop.example/g01357/laws.FnExactReadGrammar" = some f) (hfn : Tryd.pinned.checked.prog.funcs[f]? = some fn) :
    true = Tryd.pinned.checked.prog.looks [] ∧ ∀ (j : Nat) t, fn.params[j]? = some t → Tryd.pinned.checked.prog.wantsStandIn t = false := by
  obtain rfl : f = 9 := Option.some.inj ((show Tryd.prog.funcNamed "loop.example/g01357/laws.FnExactReadGrammar" = some 9 by kernel_rfl).symm.trans hf) |>.symm
  obtain rfl : fn = Tryd.f9 := (Option.some.inj (Tryd.func9.symm.trans hfn)).symm
  refine ⟨by kernel_rfl, fun j t ht => ?_⟩
  rw [Tryd.params9] at ht
  obtain rfl : t = 9 := by simpa using Array.mem_of_getElem? ht
  exact (show Tryd.prog.wantsStandIn 9 = false by kernel_rfl)

theorem ReadGrammar.holds : Rows.FnExactReadGrammarCardSaid :=
  Claim7.holds_tied_plain_at .later [] _ _ _ _ ReadGrammar.said (fun _ h => by cases h) (by kernel_rfl) (fun _ h => by cases h) fnExactReadGrammar_row_tie rfl ⟨rfl, rfl⟩ (by kernel_rfl) rfl ReadGrammar.plain (by kernel_rfl)

end Go.Proofs.YtjklkdlnabjcdaaDoor
