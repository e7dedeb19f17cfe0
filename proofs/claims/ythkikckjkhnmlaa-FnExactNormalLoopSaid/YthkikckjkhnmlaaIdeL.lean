/-
  make, literals of slices, stores.
-/
import Derived.Test.YthkikckjkhnmlaaIdeK
namespace Go.Ide

section
variable {P : Program} {g : GM} {m : Mem} {S : Nat → Prop} {w : World}

theorem valOf_cells {t : Ty} {cs : List Value} {v : Value} {x : t.D} (h : ValOf t cs v) (hr : Rep S w t cs x) : v.cells.toList = cs := by
  unfold ValOf at h
  split at h
  · subst h; rfl
  · subst h
    rw [cells_one (Rep.ones t hr v (by simp))]

theorem fill_parts {t : Ty} : ∀ {parts : List (Nat × IVal)} {vparts : List (Nat × Value)} {i : Nat} {xs : List t.D} {arr : Array Value},
    partsD t i parts = some xs → All2 (fun (p : Nat × IVal) (q : Nat × Value) => p.1 = q.1 ∧ VR g m S w p.2 q.2) parts vparts → (i + parts.length) * t.size ≤ arr.size →
    ∃ arr' news, Instr.fill (fun j => some (j * t.size, t.size)) arr vparts = some arr' ∧ news.length = xs.length * t.size ∧ ElsL S w t xs news ∧ parts.length = xs.length ∧
      arr'.toList = arr.toList.take (i * t.size) ++ news ++ arr.toList.drop ((i + xs.length) * t.size)
  | [], [], i, xs, arr, h, _, hle => by
    simp only [partsD] at h
    injection h with h
    subst h
    exact ⟨arr, [], rfl, by simp, fun i hi => by simp at hi, rfl, by simp⟩
  | (j, v) :: parts, (j', u) :: vparts, i, xs, arr, h, hp, hle => by
    obtain ⟨⟨hj, hv⟩, hrest⟩ := hp
    have hj : j = j' := hj
    subst hj
    simp only [partsD] at h
    cases hb : Nat.beq i j with
    | false => simp [hb] at h
    | true =>
      rw [hb] at h
      simp only [cond_true] at h
      have hb := beq_of hb
      subst hb
      split at h
      · rename_i x l hx hl
        injection h with h
        subst h
        obtain ⟨cs, hval, hrep⟩ := vdat_rep (S2 := S) (fun _ h => h) ReadM.nil hx hv
        have hcells := valOf_cells hval hrep
        have hcl := Rep.len t cs x hrep
        simp only [List.length_cons] at hle
        have hsz : u.cells.size = t.size := by rw [← Array.length_toList, hcells, hcl]
        have hle1 : (i + 1) * t.size ≤ arr.size := Nat.le_trans (Nat.mul_le_mul_right _ (by omega)) hle
        rw [Nat.add_mul] at hle1
        have hfold : (u.cells.zipIdx.foldl (fun cs (p : Value × Nat) => cs.setIfInBounds (i * t.size + p.2) p.1) arr).toList = arr.toList.take (i * t.size) ++ cs ++ arr.toList.drop (i * t.size + cs.length) := by
          have := foldl_set (i * t.size) cs 0 arr (by omega)
          rw [← Array.foldl_toList, Array.toList_zipIdx, hcells]
          simpa using this
        have hsize : (u.cells.zipIdx.foldl (fun cs (p : Value × Nat) => cs.setIfInBounds (i * t.size + p.2) p.1) arr).size = arr.size := by
          rw [← Array.length_toList, hfold]
          simp
          omega
        obtain ⟨arr', news, e1, e2, e3, e4, e5⟩ := fill_parts (arr := u.cells.zipIdx.foldl (fun cs (p : Value × Nat) => cs.setIfInBounds (i * t.size + p.2) p.1) arr) hl hrest (by rw [hsize]; rw [show i + 1 + parts.length = i + (parts.length + 1) from by omega]; exact hle)
        refine ⟨arr', cs ++ news, ?_, by simp [hcl, e2, Nat.add_mul, Nat.add_comm], ?_, by simp [e4], ?_⟩
        · simp only [Instr.fill]
          rw [if_neg (by simp; omega)]
          exact e1
        · have h1 : ElsL S w t [x] cs := fun k hk => by
            have hk : k = 0 := by simp at hk; exact hk
            subst hk
            exact ⟨cs, fun j _ => by simp, by simpa using hrep⟩
          have := ElsL.app (rest := []) h1 (by simp [hcl]) e3 e2
          simpa using this
        · rw [e5, hfold]
          have hk : (i + 1) * t.size = i * t.size + cs.length := by rw [Nat.add_mul, hcl]; omega
          have hlen1 : (arr.toList.take (i * t.size) ++ cs).length = (i + 1) * t.size := by rw [hk]; simp; omega
          rw [List.take_append_of_le_length (by omega), List.take_of_length_le (by omega)]
          have hd : (i + 1 + l.length) * t.size = (arr.toList.take (i * t.size) ++ cs).length + l.length * t.size := by rw [hlen1, Nat.add_mul (i + 1)]
          rw [hd, List.drop_append, List.drop_drop]
          have : (i + (x :: l).length) * t.size = i * t.size + cs.length + l.length * t.size := by
            rw [List.length_cons, show i + (l.length + 1) = (i + 1) + l.length from by omega, Nat.add_mul (i + 1), hk]
          rw [this]
          simp [List.append_assoc]
      · cases h
  | [], _ :: _, _, _, _, _, hp, _ => hp.elim
  | _ :: _, [], _, _, _, _, hp, _ => hp.elim

end

section
variable {cx : Cx} {g : GM} {st : St} {a : Act} {w w' : World}

theorem iBuildSlice_sound {T : TypeId} {t : Ty} {len : Nat} {parts : List (Nat × IVal)} {vparts : Array (Nat × Value)} {e : Eff} (h : Sim cx g st a w) (hw : Fresh st.mem e.new) (he : iBuildSlice cx.P st.nx T t len parts = some e)
    (hp : All2 (fun (p : Nat × IVal) (q : Nat × Value) => p.1 = q.1 ∧ VR g st.mem (cx.safe g st.mem w) w p.2 q.2) parts vparts.toList) : Runs cx st a w (Instr.buildSlice T len vparts) e := by
  unfold iBuildSlice at he
  split at he
  · rename_i el hu
    cases hb : ((sizeT cx.P el == some t.size && (((cx.P.info? el).bind (·.zero)).map fun z => Nat.beq z.cells.size t.size) == some true) && (Nat.beq parts.length len && Nat.ble (len * t.size) 65536)) with
    | false => rw [hb] at he; cases he
    | true =>
      rw [hb] at he
      simp only [cond_true] at he
      simp only [Bool.and_eq_true, beq_iff_eq] at hb
      obtain ⟨⟨hs, hz⟩, hn, h24⟩ := hb
      have hn := beq_of hn
      have h24 := ble_of h24
      subst hn
      split at he
      · rename_i xs hx
        injection he with he
        subst he
        cases hi : cx.P.info? el with
        | none => simp [sizeT, hi] at hs
        | some i =>
          rw [hi] at hz
          simp only [Option.bind_some] at hz
          cases hzz : i.zero with
          | none => simp [hzz] at hz
          | some z =>
            rw [hzz] at hz
            have hz : Nat.beq z.cells.size t.size = true := by simpa using hz
            have hz := beq_of hz
            let base : Array Value := (Array.range (parts.length * t.size)).map fun k => (if parts.length * t.size = 0 then #[] else z.cells)[k % (if parts.length * t.size = 0 then #[] else z.cells).size]!
            have hbs : base.size = parts.length * t.size := by simp [base]
            obtain ⟨arr', news, e1, e2, e3, e4, e5⟩ := fill_parts (g := g) (m := st.mem) (S := cx.safe g st.mem w) (w := w) (arr := base) hx hp (by rw [hbs, Nat.zero_add]; exact Nat.le_refl _)
            have hrun : (Instr.buildSlice T parts.length vparts).run cx.P w = .ok (.slice (some ⟨w.heap.size, 0, none⟩) parts.length parts.length) (w.alloc (.cells arr' el)) := by
              have h24' : ¬ (16777216 < parts.length * t.size) := by omega
              by_cases h0 : parts.length * t.size = 0
              · have e1' : Instr.fill (fun j => some (j * t.size, t.size)) ((Array.range (parts.length * t.size)).map fun k => (#[] : Array Value)[k % (#[] : Array Value).size]!) vparts.toList = some arr' := by
                  have := e1
                  simp only [base, h0, if_true] at this
                  rw [h0]; exact this
                simp only [Instr.buildSlice, Sem.run_bind, run_underlying hu, Result.andThen_ok, run_sizeT hs]
                simp [h0, h24'] at e1' ⊢
                simp [e1', newRow]
              · have e1' : Instr.fill (fun j => some (j * t.size, t.size)) ((Array.range (parts.length * t.size)).map fun k => z.cells[k % z.cells.size]!) vparts.toList = some arr' := by
                  have := e1
                  simp only [base, h0, if_false] at this
                  exact this
                simp only [Instr.buildSlice, Sem.run_bind, run_underlying hu, Result.andThen_ok, run_sizeT hs]
                simp [h0, h24', zeroValue, typeInfo, hi, hzz] at e1' ⊢
                simp [e1', newRow]
            refine ⟨_, _, hrun, ?_⟩
            have hlen : arr'.toList = news := by
              rw [e5, ← e4]
              simp only [Nat.zero_mul, Nat.zero_add, List.take_zero, List.nil_append]
              rw [List.drop_of_length_le (by rw [Array.length_toList, hbs]; exact Nat.le_refl _)]
              simp
            have hasz : arr'.size = xs.length * t.size := by rw [← Array.length_toList, hlen, e2]
            refine Did.newAt (G := []) (up := []) (gk := some w.heap.size) h hw ⟨rfl, rfl, rfl⟩ (.inl rfl) (KeepF.alloc _ _ _) (.inl rfl) (fun b hb => by injection hb with hb; left; omega) (fun S' hS => ⟨arr', blk.new w arr' el, ?_⟩) ?_
            · refine ElsL.toR ?_
              rw [hlen]
              exact fun i hi => by
                obtain ⟨es, k1, k2⟩ := e3 i hi
                exact ⟨es, k1, Rep.keep hS t es _ k2⟩
            · refine ⟨xs.length, arr', by rw [e4], Nat.le_refl _, blk.new w arr' el, by rw [hasz]; exact Nat.le_refl _, ?_⟩
              have := t.size_pos
              have h1 : xs.length ≤ xs.length * t.size := Nat.le_mul_of_pos_right _ this
              rw [e4] at h24
              unfold maxLen
              omega
      · cases he
  · cases he

theorem iMakeSlice_sound {T : TypeId} {t : Ty} {len cap : IVal} {e : Eff} {lv cv : Value} (h : Sim cx g st a w) (hw : Fresh st.mem e.new) (he : iMakeSlice cx.P st.nx T t len cap = some e) (hc : AllP e.cond)
    (hl : VR g st.mem (cx.safe g st.mem w) w len lv) (hcv : VR g st.mem (cx.safe g st.mem w) w cap cv) : Runs cx st a w (Instr.makeSlice T lv cv) e := by
  unfold iMakeSlice at he
  split at he
  · rename_i el kl n kc c hu
    split at he
    · rename_i i z0 hi hz0
      cases hb : (Nat.beq i.size t.size && Nat.ble i.bytes 32768) with
      | false => simp [hb] at he
      | true =>
        rw [hb] at he
        simp only [cond_true] at he
        simp only [Bool.and_eq_true] at hb
        have hsz := beq_of hb.1
        have hby := ble_of hb.2
        injection he with he
        subst he
        obtain ⟨⟨h0, h1, h2⟩, _⟩ := hc
        have e1 := dat_int (g := g) (m := st.mem) (S := cx.safe g st.mem w) (w := w) hl
        have e2 := dat_int (g := g) (m := st.mem) (S := cx.safe g st.mem w) (w := w) hcv
        subst e1
        subst e2
        have h2 : c = n := h2
        subst h2
        obtain ⟨k, rfl⟩ := Int.eq_ofNat_of_zero_le (show (0 : Int) ≤ c from h0)
        have hk : k ≤ 4294967296 := by have : ((k : Nat) : Int) ≤ 4294967296 := h1; omega
        unfold zeroD at hz0
        rw [hi] at hz0
        cases hzz : i.zero with
        | none => simp [hzz] at hz0
        | some z =>
          simp only [hzz] at hz0
          have hbytes : (i.bytes : Int) * (k : Int) ≤ 281474976710656 := by
            have : i.bytes * k ≤ 32768 * 4294967296 := Nat.mul_le_mul hby hk
            have h3 : ((i.bytes * k : Nat) : Int) ≤ 281474976710656 := by omega
            rwa [Int.natCast_mul] at h3
          have hrun := run_make (P := cx.P) w T el i z hu hi hzz kl kc (k : Int) (k : Int) (by omega) (Int.le_refl _) hbytes (by omega)
          refine ⟨_, _, hrun, ?_⟩
          have hrep : ∀ (S' : Nat → Prop) (w' : World), Rep S' w' t z.cells.toList z0 := fun S' w' => by
            obtain ⟨cs, hval, hrep⟩ := vdat_rep (g := fun _ => none) (m := []) (S := S') (S2 := S') (fun _ h => h) ReadM.nil hz0 (cstV_VR (w := w') z)
            rw [valOf_cells hval hrep]; exact hrep
          have hzlen : z.cells.size = t.size := by rw [← Array.length_toList]; exact Rep.len t _ z0 (hrep (fun _ => True) w)
          have hzp := t.size_pos
          simp only [Int.toNat_natCast] at hrun ⊢
          have hcells : ∀ q, q < k * t.size → (madeCells z.cells (k * i.size))[q]? = z.cells[q % t.size]? := fun q hq => by
            have hne : k * t.size ≠ 0 := by omega
            have hmod : q % t.size < z.cells.size := by rw [hzlen]; exact Nat.mod_lt _ hzp
            rw [hsz]
            simp [madeCells, hq, hzlen, Array.getElem?_eq_getElem hmod, getElem!_pos z.cells (q % t.size) hmod]
          have hcsz : (madeCells z.cells (k * i.size)).size = k * t.size := by rw [hsz]; simp [madeCells]
          refine Did.newAt (G := []) (up := []) (gk := some w.heap.size) h hw ⟨rfl, rfl, rfl⟩ (.inl rfl) (KeepF.alloc _ _ _) (.inl rfl) (fun b hb => by injection hb with hb; left; omega) (fun S' hS => ⟨_, blk.new w _ el, ?_⟩) ?_
          · intro i' hi'
            simp only [List.length_replicate, Int.toNat_natCast] at hi'
            refine ⟨z.cells.toList, fun j u hj => ?_, ?_⟩
            · have hj' : j < t.size := by rw [← hzlen, ← Array.length_toList]; exact (List.getElem?_eq_some_iff.1 hj).1
              have hlt : i' * t.size + j < k * t.size := by
                have : (i' + 1) * t.size ≤ k * t.size := Nat.mul_le_mul_right _ (by omega)
                rw [Nat.add_mul] at this
                omega
              rw [hcells _ hlt]
              have : (i' * t.size + j) % t.size = j := by rw [Nat.add_comm, Nat.mul_comm, Nat.add_mul_mod_self_left]; exact Nat.mod_eq_of_lt hj'
              rw [this, ← Array.getElem?_toList]
              exact hj
            · simp only [List.getElem_replicate]
              exact hrep _ _
          · refine ⟨k, _, by simp, by simp, blk.new w _ el, by rw [hcsz]; exact Nat.le_refl _, by unfold maxLen; omega⟩
    · cases he
  · cases he

theorem Sim.grow {w' : World} (h : Sim cx g st a w) (hk : KeepF [] w w') : Sim cx g (st.setMem st.mem st.nx) a w' := h.turn (G := []) ⟨hk, fun b hb => (by simp at hb), fun _ _ => rfl, fun k ch hk => .inl ⟨hk, fun _ b _ hb => by simp at hb⟩, fun k ch hk hk' => by
    rw [hk] at hk'; cases hk'⟩

theorem iEmpty_sound {T : TypeId} {len : Nat} {parts : List (Nat × IVal)} {vparts : Array (Nat × Value)} {e : Eff} (h : Sim cx g st a w) (he : iEmpty cx.P T len parts = some e)
    (hp : All2 (fun (p : Nat × IVal) (q : Nat × Value) => p.1 = q.1 ∧ VR g st.mem (cx.safe g st.mem w) w p.2 q.2) parts vparts.toList) : Runs cx st a w (Instr.buildSlice T len vparts) e := by
  unfold iEmpty at he
  split at he
  · rename_i el hu
    cases hb : (((sizeT cx.P el).isSome && Nat.beq len 0) && parts.isEmpty) with
    | false => rw [hb] at he; cases he
    | true =>
      rw [hb] at he
      simp only [cond_true] at he
      simp only [Bool.and_eq_true, List.isEmpty_iff] at hb
      obtain ⟨⟨hs, hn⟩, hpe⟩ := hb
      have hn := beq_of hn
      subst hn
      subst hpe
      obtain ⟨k, hs⟩ := Option.isSome_iff_exists.1 hs
      have hv : vparts = #[] := by
        cases hq : vparts.toList with
        | nil => exact Array.toList_eq_nil_iff.1 hq
        | cons x xs => rw [hq] at hp; exact hp.elim
      subst hv
      have hrun : (Instr.buildSlice T 0 #[]).run cx.P w = .ok (.slice (some ⟨w.heap.size, 0, none⟩) 0 0) (w.alloc (.cells #[] el)) := by
        simp only [Instr.buildSlice, Sem.run_bind, run_underlying hu, Result.andThen_ok, run_sizeT hs]
        simp [newRow, Instr.fill]
        congr 2
        apply Array.ext'
        simp
      injection he with he
      subst he
      exact ⟨_, _, hrun, g, h.grow (KeepF.alloc _ _ _), _, rfl⟩
  · cases he

end
end Go.Ide
