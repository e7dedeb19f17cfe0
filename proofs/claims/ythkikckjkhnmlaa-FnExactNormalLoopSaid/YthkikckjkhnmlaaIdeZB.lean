/-
  A slice that is compared with nil: a test that nothing tells of, but that an empty slice's data are known.
-/
import Derived.Test.YthkikckjkhnmlaaIdeZA
namespace Go.Ide

theorem run_equal_nil {P : Program} {w : World} {T e : TypeId} {a : Option Addr} {n cap : Nat} (hT : P.underlying T = some (.slice e)) :
    (Op.equal T (.slice a n cap) (.slice none 0 0)).run P w = .ok a.isNone w := by
  have h : ∀ d : Nat, (Op.equalIn (d + 1) T (.slice a n cap) (.slice none 0 0)).run P w = .ok a.isNone w := fun d => by
    rw [Op.equalIn]
    cases a <;> simp [run_underlying hT]
  exact h 9999

theorem run_guardNil {P : Program} {w : World} {T : TypeId} {x y : Operand} {a : Option Addr} {n cap : Nat} : (Go.eqGuard .eql T x y (.slice a n cap) (.slice none 0 0)).run P w = .ok () w := rfl

theorem run_eqlNil {P : Program} {w : World} {T e : TypeId} {a : Option Addr} {n cap : Nat} (hT : P.underlying T = some (.slice e)) : (Go.binOp .eql T (.slice a n cap) (.slice none 0 0)).run P w = .ok (.bool a.isNone) w := by
  have h2 : Go.binOp .eql T (.slice a n cap) (.slice none 0 0) = (do pure (.bool (← Op.equal T (.slice a n cap) (.slice none 0 0)))) := rfl
  rw [h2]
  simp only [Sem.run_bind, Result.andThen_ok, run_equal_nil hT, Sem.run_pure]

section
variable {cx : Cx} {st : St} {P : Program} {N : Nat} {Q : Exit → St → Prop} {y : Code}

theorem HT.isNil {id : Nat} {o1 o2 : Oper} {T T' e : TypeId} {t3 t4 : Tmp} {v : IVal} {t : Ty} {xs : List t.D} {st1 : St} (hP : cx.P = P) (hN : cx.N = N) (h1 : istep P N [o1, o2] o1 ⟨none, .no⟩ st = some (st1, [])) (hg : o2.guard = none)
    (hop : o2.op = .binOp .eql T (.tmp t3) (.const (.slice none 0 0)) T') (hd : o2.dst = some t4) (hlt : Nat.blt t4 N = true) (hT : P.underlying T = some (.slice e)) (hv : lk t3 st1.fr = some v) (hx : vdat st1.mem (.sl t) v = some xs)
    (k : ∀ b, (b = true → xs = []) → HT cx (st1.put (some t4) (.one (.dat .bool b))) y Q) : HT cx st (.seq (.region id [o1, o2].toArray false) y) Q := by
  subst hP; subst hN
  refine HT.seq fun g a w hs => wp_region_lit ?_
  refine wpList_step fun K hK => istep_sound hs h1 trivial fun g' a' w' hs' => hK a' w' ?_
  refine wpList_step fun K' hK' => ?_
  have hw : Region.wanted o2 (yielded [o1, o2].toArray a'.tmps) = true := by simp only [Region.wanted, hg]
  rw [if_pos hw]
  have hr : ReadM g' st1.mem st1.mem (fun _ => True) w' := fun k t xs hl => by
    refine ⟨hl, ?_⟩
    have hc := hs'.mem k _ hl
    cases hgk : g' k with
    | none => rw [hgk] at hc; exact hc
    | some b =>
      rw [hgk] at hc
      obtain ⟨arr, hb, hel⟩ := hc
      exact ⟨trivial, arr, hb, hel.keep fun b _ => ⟨trivial, rfl⟩⟩
  obtain ⟨ad, n, cap, e1, e2⟩ := nil_test _ _ _ _ hx hr (hs'.fr t3 v hv)
  unfold Oper.wp
  have he : (execOp a'.eval o2).run cx.P w' = .ok (.value (.bool ad.isNone)) w' := by
    have e3 : a'.eval (.tmp t3) = .slice ad n cap := e1
    have e4 : a'.eval (.const (.slice none 0 0)) = .slice none 0 0 := rfl
    simp only [execOp, hop, e3, e4, Sem.run_bind, run_guardNil, Result.andThen_ok, run_eqlNil hT, Sem.run_pure]
  rw [he]
  refine hK' _ _ ?_
  have hsim := hs'.put (v := .one (.dat .bool ad.isNone)) (val := .bool ad.isNone) (show CR g' st1.mem (cx.safe g' st1.mem w') w' (.dat .bool ad.isNone) (.bool ad.isNone) from rfl) (some t4) (fun t e => by injection e with e; subst e; exact Nat.lt_of_succ_le (by simpa [Nat.blt] using hlt))
  rw [hd]
  exact ⟨_, g', k ad.isNone (fun hb => e2 (by simpa using hb)), hsim⟩

end
end Go.Ide
