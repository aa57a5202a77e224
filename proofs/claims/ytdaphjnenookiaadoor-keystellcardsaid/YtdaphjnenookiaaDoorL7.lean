/- A layer of lemmas: one operation of the model, one step of a walk; it says nothing of a program. -/
import Derived.Test.YtdaphjnenookiaaDoorL6
namespace Go.Proofs.YtdaphjnenookiaaDoor
open Go Go.RowKit
set_option linter.unusedVariables false
set_option linter.unusedSimpArgs false

theorem fold_set : ∀ (vs : List Value) (k off : Nat) (cs : Array Value), off + k + vs.length ≤ cs.size →
    ((vs.zipIdx k).foldl (fun cs (p : Value × Nat) => cs.setIfInBounds (off + p.2) p.1) cs).toList = cs.toList.take (off + k) ++ vs ++ cs.toList.drop (off + k + vs.length)
  | [], k, off, cs, h => by simp
  | v :: vs, k, off, cs, h => by
    simp only [List.length_cons] at h
    rw [List.zipIdx_cons, List.foldl_cons, fold_set vs (k + 1) off _ (by simp; omega)]
    simp only [Array.toList_setIfInBounds, List.length_cons]
    have h1 : (cs.toList.set (off + k) v).take (off + (k + 1)) = cs.toList.take (off + k) ++ [v] := by
      apply List.ext_getElem?
      intro j
      simp only [List.getElem?_take, List.getElem?_set, List.getElem?_append, List.length_take, Array.length_toList]
      have hm : min (off + k) cs.size = off + k := by omega
      rw [hm]
      by_cases hj : j < off + k
      · have h3 : ¬ off + k = j := by omega
        have h4 : j < off + (k + 1) := by omega
        simp [hj, h3, h4]
      · by_cases hj2 : j = off + k
        · subst hj2
          have h4 : off + k < off + (k + 1) := by omega
          have h5 : off + k < cs.size := by omega
          simp [h4, h5]
        · have h4 : ¬ j < off + (k + 1) := by omega
          obtain ⟨e, he⟩ : ∃ e, j - (off + k) = e + 1 := ⟨j - (off + k) - 1, by omega⟩
          simp [hj, h4, he]
    have h2 : (cs.toList.set (off + k) v).drop (off + (k + 1) + vs.length) = cs.toList.drop (off + k + (vs.length + 1)) := by
      apply List.ext_getElem?
      intro j
      simp only [List.getElem?_drop, List.getElem?_set]
      have h3 : ¬ off + k = off + (k + 1) + vs.length + j := by omega
      rw [if_neg h3]
      congr 1
      omega
    rw [h1, h2]
    simp

theorem fill_all {sz : Nat} : ∀ (vs : List Value) (k : Nat) (cur : Array Value), (∀ v ∈ vs, v.cells.size = sz) → (k + vs.length) * sz ≤ cur.size →
    Instr.fill (fun i => some (i * sz, sz)) cur ((List.range' k vs.length).zip vs) = some (cur.toList.take (k * sz) ++ vs.flatMap (fun v => v.cells.toList) ++ cur.toList.drop ((k + vs.length) * sz)).toArray
  | [], k, cur, h, hl => by simp [Instr.fill]
  | v :: vs, k, cur, h, hl => by
    have hv : v.cells.size = sz := h v (List.mem_cons_self)
    simp only [List.length_cons] at hl
    have e1 : (k + (vs.length + 1)) * sz = k * sz + sz + vs.length * sz := by rw [Nat.add_mul, Nat.add_mul]; omega
    have e2 : (k + 1) * sz = k * sz + sz := by rw [Nat.add_mul]; omega
    have e3 : (k + 1 + vs.length) * sz = k * sz + sz + vs.length * sz := by rw [Nat.add_mul, Nat.add_mul]; omega
    have hf : (v.cells.zipIdx.foldl (fun cs (p : Value × Nat) => cs.setIfInBounds (k * sz + p.2) p.1) cur).toList = cur.toList.take (k * sz) ++ v.cells.toList ++ cur.toList.drop (k * sz + sz) := by
      rw [← Array.foldl_toList]
      have := fold_set v.cells.toList 0 (k * sz) cur (by simp [hv]; omega)
      simpa [hv] using this
    simp only [List.length_cons, List.range'_succ, List.zip_cons_cons, Instr.fill]
    have hle : k * sz + sz ≤ cur.size := by
      rw [e1] at hl
      exact Nat.le_trans (Nat.le_add_right _ _) hl
    have hno : ¬ (v.cells.size ≠ sz ∨ k * sz + v.cells.size > cur.size) := by
      rw [hv]
      intro h
      rcases h with h | h
      · exact h rfl
      · exact absurd hle (Nat.not_le_of_gt h)
    have hno' : ¬ ((decide (v.cells.size ≠ sz) || decide (k * sz + v.cells.size > cur.size)) = true) := by
      simpa only [Bool.or_eq_true, decide_eq_true_eq] using hno
    rw [if_neg hno']
    have hsz : (v.cells.zipIdx.foldl (fun cs (p : Value × Nat) => cs.setIfInBounds (k * sz + p.2) p.1) cur).size = cur.size := by
      rw [← Array.length_toList, hf]
      simp [hv]
      omega
    have ih := fill_all vs (k + 1) (v.cells.zipIdx.foldl (fun cs (p : Value × Nat) => cs.setIfInBounds (k * sz + p.2) p.1) cur) (fun u hu => h u (List.mem_cons_of_mem _ hu)) (by rw [hsz, e3]; omega)
    rw [hf, e2, e3] at ih
    refine ih.trans ?_
    rw [e1, List.flatMap_cons]
    congr 1
    have l1 : (cur.toList.take (k * sz)).length = k * sz := by simp; omega
    have l2 : (cur.toList.take (k * sz) ++ v.cells.toList).length = k * sz + sz := by simp [hv]; omega
    rw [List.take_left' l2, List.drop_append, List.drop_of_length_le (by rw [l2]; omega), l2]
    simp

theorem Kd.Els.lits {α : Type} {f : α → Value} {hf : ∀ x, (f x).oneCell' = true} {F : Nat → Prop} {w : World} {vs : List Value} {xs : List α} (h : vs = xs.map f) : (Kd.flat f hf).Els F w (vs.flatMap fun v => v.cells.toList) xs := by
  subst h
  induction xs with
  | nil => exact .nil
  | cons x xs ih =>
    rw [List.map_cons, List.flatMap_cons]
    refine .cons ?_ ih
    show (f x).cells.toList = [f x]
    have h1 := hf x
    cases h2 : f x <;> first | rfl | (rw [h2] at h1; cases h1)

section
variable {P : Program} {n : Nat} {E : Env} {w : World} {Q : Exit → Env → World → Prop} {ops : Array Oper} {rest : List Oper} {o : Oper} {d : Nat}
variable {x y z : Operand} {t t' ty : TypeId} {pos : String} {af : Array Edge}

/-- A slice literal, all its elements written out. -/
theorem s_lit {α : Type} {K : Kd α} {F : Nat → Prop} {e : TypeId} {m : Nat} {parts : List (Nat × Operand)} {vs : List Value} {xs : List α} {zv : Value} {by_ : Nat}
    (hv : evs E (parts.map (·.2)) = some vs) (hix : parts.map (·.1) = List.range' 0 vs.length) (hm : m = vs.length) (hm' : m = xs.length) (hu : P.underlying t = some (.slice e)) (hi : Inf P e zv K.sz by_) (hzs : zv.cells.size = K.sz)
    (hsmall : m * K.sz ≤ 16777216) (hpos : 0 < m) (hcs : ∀ v ∈ vs, v.cells.size = K.sz) (hels : K.Els F w (vs.flatMap fun v => v.cells.toList) xs)
    (k : ∀ v' w', K.Own F w.heap.size e w' v' xs → Ext w w' → G P n ops Q rest ((d, v') :: E) w') (hlt : d < n := by decide) :
    G P n ops Q (⟨some d, .buildSlice t m parts.toArray, ty, pos, af, none⟩ :: rest) E w := by
  refine s_buildSlice hv hu hi hm' hsmall ?_ hpos hels k hlt
  have hsz : ((Array.range (m * K.sz)).map (zv.cells[· % zv.cells.size]!)).size = m * K.sz := by simp
  rw [hix, fill_all vs 0 _ hcs (by rw [hsz, hm]; simp)]
  congr 1
  have h1 : List.drop (vs.length * K.sz) ((Array.range (m * K.sz)).map (zv.cells[· % zv.cells.size]!)).toList = [] := List.drop_of_length_le (by simp [hm])
  simp only [Nat.zero_add, Nat.zero_mul, List.take_zero, List.nil_append, h1, List.append_nil]

/-- A struct or array literal: the cells by reckoning. -/
theorem s_build {parts : List (Nat × Operand)} {vs cs : List Value} {fs : Array Field} {places : Array (Nat × Nat)} {zv : Value} {sz by_ : Nat}
    (hv : evs E (parts.map (·.2)) = some vs) (hu : P.underlying t = some (.struct fs)) (hi : Inf P t zv sz by_) (hpl : ∀ w, Sem.run P (fs.mapM fun (f : Field) => (do pure (f.offset, ← sizeOf f.type) : Sem (Nat × Nat))) w = .ok places w)
    (hfill : Instr.fill (places[·]?) zv.cells ((parts.map (·.1)).zip vs) = some cs.toArray)
    (k : G P n ops Q rest ((d, .agg cs.toArray) :: E) w) (hlt : d < n := by decide) :
    G P n ops Q (⟨some d, .build t parts.toArray, ty, pos, af, none⟩ :: rest) E w := by
  refine G_val (v := .agg cs.toArray) (w' := w) rfl rfl hlt (fun a ha => ?_) k
  have h1 := ha.evals hv
  have h2 : (parts.toArray.map fun (i, x) => (i, a.eval x)).toList = (parts.map (·.1)).zip vs := by
    rw [← h1]
    simp [List.zip_map']
  simp only [execOp, Instr.build]
  simp only [Sem.run_bind, run_underlying hu, Result.andThen_ok, hi.zero, hpl, Sem.run_pure, h2, hfill]
end
end Go.Proofs.YtdaphjnenookiaaDoor
