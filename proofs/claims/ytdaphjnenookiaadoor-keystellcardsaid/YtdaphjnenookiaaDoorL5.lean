/- A layer of lemmas: one operation of the model, one step of a walk; it says nothing of a program. -/
import Derived.Test.YtdaphjnenookiaaDoorL4
namespace Go.Proofs.YtdaphjnenookiaaDoor
open Go Go.RowKit
set_option linter.unusedVariables false
set_option linter.unusedSimpArgs false

/-- What the program's table says of a type: zero, cells, bytes. -/
abbrev Inf (P : Program) (e : TypeId) (z : Value) (size bytes : Nat) : Prop := (P.info? e).map (fun i => (i.zero, i.size, i.bytes)) = some (some z, size, bytes)

theorem Inf.zero {P : Program} {e : TypeId} {z : Value} {size bytes : Nat} (h : Inf P e z size bytes) (w : World) : (zeroValue e).run P w = .ok z w := by
  obtain ⟨i, hi, hz, _, _⟩ := info_parts h
  simp [zeroValue, typeInfo, hi, hz]
theorem Inf.size {P : Program} {e : TypeId} {z : Value} {size bytes : Nat} (h : Inf P e z size bytes) (w : World) : (sizeOf e).run P w = .ok size w := by
  obtain ⟨i, hi, hz, hs, _⟩ := info_parts h
  simp [sizeOf, typeInfo, hi, hs]

/-- A type of one cell. -/
def oneD : TypeDesc → Bool
  | .struct _ | .array _ _ => false
  | _ => true
theorem isAgg_of {P : Program} {t : TypeId} {de : TypeDesc} (h : P.underlying t = some de) (w : World) : (isAgg t).run P w = .ok (!oneD de) w := by
  unfold isAgg
  rw [Sem.run_bind, run_underlying h w]
  cases de <;> rfl

theorem ld1 {P : Program} {w : World} {T : TypeId} {de : TypeDesc} {ad : Addr} {u : Value} {us : List Value} (hc : CellsAt w ad (u :: us)) (hu : P.underlying T = some de) (h1 : oneD de = true := by rfl) : (loadVar T ad).run P w = .ok u w := by
  have h2 := hc 0 u rfl
  rw [add_zero'] at h2
  have h3 := isAgg_of hu w
  rw [h1] at h3
  simp [loadVar, h3, load, Sem.run, h2]
theorem ldA {P : Program} {w : World} {T : TypeId} {de : TypeDesc} {ad : Addr} {cs : List Value} {zv : Value} {m by_ : Nat} (hc : CellsAt w ad cs) (hu : P.underlying T = some de) (hi : Inf P T zv m by_) (hm : cs.length = m) (h1 : oneD de = false := by rfl) :
    (loadVar T ad).run P w = .ok (.agg cs.toArray) w := by
  subst hm
  have h3 := isAgg_of hu w
  rw [h1] at h3
  have h4 := run_loadCells_list (P := P) w ad cs hc
  simp [loadVar, h3, hi.size, h4]

section
variable {P : Program} {n : Nat} {E : Env} {w : World} {Q : Exit → Env → World → Prop} {ops : Array Oper} {rest : List Oper} {o : Oper} {d : Nat}
variable {x y z : Operand} {t t' ty : TypeId} {pos : String} {af : Array Edge}

theorem s_box {T : TypeId} {v : Value} (hx : ev E x = some v) (k : ∀ g w', w.heap.size ≤ g → Ext w w' → Blk w' g T v.cells.toList → G P n ops Q rest ((d, .pointer (some ⟨g, 0, none⟩)) :: E) w') (hlt : d < n := by decide) :
    G P n ops Q (⟨some d, .box T x, ty, pos, af, none⟩ :: rest) E w :=
  G_val (v := .pointer (some ⟨w.heap.size, 0, none⟩)) (w' := w.alloc (.cells v.cells T)) rfl rfl hlt (fun a ha => by simp [execOp, ha.eval hx, Instr.box, newVar, newRow])
    (k _ _ (Nat.le_refl _) (Ext.alloc _ _) (by unfold Blk; rw [heap_alloc_new]))

theorem s_alloc {T : TypeId} {zv : Value} {sz by_ : Nat} (hi : Inf P T zv sz by_) (k : ∀ g w', w.heap.size ≤ g → Ext w w' → Blk w' g T zv.cells.toList → G P n ops Q rest ((d, .pointer (some ⟨g, 0, none⟩)) :: E) w') (hlt : d < n := by decide) :
    G P n ops Q (⟨some d, .alloc T, ty, pos, af, none⟩ :: rest) E w :=
  G_val (v := .pointer (some ⟨w.heap.size, 0, none⟩)) (w' := w.alloc (.cells zv.cells T)) rfl rfl hlt (fun a ha => by simp [execOp, Instr.alloc, hi.zero, newVar, newRow])
    (k _ _ (Nat.le_refl _) (Ext.alloc _ _) (by unfold Blk; rw [heap_alloc_new]))

theorem s_load {T : TypeId} {de : TypeDesc} {ad : Addr} {u : Value} {us : List Value} (hx : ev E x = some (.pointer (some ad))) (hc : CellsAt w ad (u :: us)) (hu : P.underlying T = some de)
    (k : G P n ops Q rest ((d, u) :: E) w) (h1 : oneD de = true := by rfl) (hlt : d < n := by decide) : G P n ops Q (⟨some d, .load T x, ty, pos, af, none⟩ :: rest) E w :=
  G_val rfl rfl hlt (fun a ha => by
    have h2 := hc 0 u rfl
    rw [add_zero'] at h2
    have h3 := isAgg_of hu w
    rw [h1] at h3
    simp [execOp, ha.eval hx, Instr.loadAt, Instr.sureAddr, loadVar, h3, load, Sem.run, h2]) k

theorem s_loadA {T : TypeId} {de : TypeDesc} {ad : Addr} {cs : List Value} {zv : Value} {by_ : Nat} (hx : ev E x = some (.pointer (some ad))) (hc : CellsAt w ad cs) (hu : P.underlying T = some de)
    (hi : Inf P T zv cs.length by_) (k : G P n ops Q rest ((d, .agg cs.toArray) :: E) w) (h1 : oneD de = false := by rfl) (hlt : d < n := by decide) : G P n ops Q (⟨some d, .load T x, ty, pos, af, none⟩ :: rest) E w :=
  G_val rfl rfl hlt (fun a ha => by
    have h3 := isAgg_of hu w
    rw [h1] at h3
    have h4 := run_loadCells_list (P := P) w ad cs hc
    simp [execOp, ha.eval hx, Instr.loadAt, Instr.sureAddr, loadVar, h3, hi.size, h4]) k

/-- A store into a block of the call's own. -/
theorem s_store {T T0 : TypeId} {g off : Nat} {cs : List Value} {v zv : Value} {m by_ : Nat} (hx : ev E x = some (.pointer (some ⟨g, off, none⟩))) (hy : ev E y = some v) (hb : Blk w g T0 cs)
    (hi : Inf P T zv m by_) (hm : v.cells.size = m) (hl : off + m ≤ cs.length) (h1' : v.cells.toList.all Value.oneCell' = true)
    (k : ∀ w', w.grownBy w' (some g) → Blk w' g T0 (cs.take off ++ v.cells.toList ++ cs.drop (off + m)) → G P n ops Q rest E w') :
    G P n ops Q (⟨none, .store T x y, ty, pos, af, none⟩ :: rest) E w := by
  subst hm
  have h1 : ∀ u ∈ v.cells.toList, u.oneCell' = true := fun u hu => List.all_eq_true.1 h1' u hu
  have hst := run_storeCells_at P g off T0 v.cells.toList 0 cs.toArray w hb (by simpa using hl) h1
  simp only [Nat.add_zero, List.toList_toArray, Array.length_toList] at hst
  refine G_skip rfl rfl (fun a ha => ?_) (k (w.setRow g (cs.take off ++ v.cells.toList ++ cs.drop (off + v.cells.size)).toArray) ?_ ?_)
  · simp at hst
    simp [execOp, ha.eval hx, ha.eval hy, Instr.storeAt, Instr.sureAddr, storeVar, hi.size, hst]
  · refine ⟨rfl, rfl, rfl, by simp, fun k hk hne => ?_⟩
    simp only [World.setRow, Array.getElem?_modify]
    rw [if_neg (fun e => hne (by rw [e]))]
  · exact setRow_heap w g _ _ _ _ hb

/-- The address of a field. -/
theorem s_fieldB {fs : Array Field} {fd : Field} {i g off : Nat} {zv : Value} {m by_ : Nat} (hx : ev E x = some (.pointer (some ⟨g, off, none⟩))) (hs : P.underlying t = some (.struct fs)) (hf : fs[i]? = some fd) (hi : Inf P fd.type zv (m + 1) by_)
    (k : G P n ops Q rest ((d, .pointer (some ⟨g, off + fd.offset, none⟩)) :: E) w) (hlt : d < n := by decide) : G P n ops Q (⟨some d, .fieldAddr t x i, ty, pos, af, none⟩ :: rest) E w :=
  G_val rfl rfl hlt (fun a ha => by
    simp [execOp, ha.eval hx, Instr.fieldAt, run_underlying hs, hf, Instr.sureAddr, fieldPlace, hi.size, add_none]) k
theorem s_fieldA {fs : Array Field} {fd : Field} {i : Nat} {ad : Addr} {zv : Value} {m by_ : Nat} (hx : ev E x = some (.pointer (some ad))) (hs : P.underlying t = some (.struct fs)) (hf : fs[i]? = some fd) (hi : Inf P fd.type zv (m + 1) by_)
    (k : G P n ops Q rest ((d, .pointer (some (ad.add fd.offset))) :: E) w) (hlt : d < n := by decide) : G P n ops Q (⟨some d, .fieldAddr t x i, ty, pos, af, none⟩ :: rest) E w :=
  G_val rfl rfl hlt (fun a ha => by
    simp [execOp, ha.eval hx, Instr.fieldAt, run_underlying hs, hf, Instr.sureAddr, fieldPlace, hi.size]) k

/-- The address of an element of a slice. -/
theorem s_idx {α : Type} {K : Kd α} {F : Nat → Prop} {v : Value} {xs : List α} {i : Int} {x0 : α} {e : TypeId} {zv : Value} {by_ : Nat} (hx : ev E x = some v) (hy : ev E y = some (iv i)) (hs : K.Sl F w v xs)
    (h0 : 0 ≤ i) (hg : xs[i.toNat]? = some x0) (hu : P.underlying t = some (.slice e)) (hi : Inf P e zv K.sz by_)
    (k : ∀ ad cs, F ad.block → K.R F w cs x0 → CellsAt w ad cs → G P n ops Q rest ((d, .pointer (some ad)) :: E) w) (hlt : d < n := by decide) :
    G P n ops Q (⟨some d, .indexAddr t x y, ty, pos, af, none⟩ :: rest) E w := by
  obtain ⟨A, c, cs, e1, hc1, hc2, he, hcell⟩ := hs
  obtain ⟨hlt', hx0⟩ := List.getElem?_eq_some_iff.1 hg
  obtain ⟨ad, rfl, hF, hcs⟩ := hcell (fun h => by rw [h] at hlt'; simp at hlt')
  obtain ⟨c0, ds, e2, hr⟩ := he.get hlt'
  rw [hx0] at hr
  have hd := hcs.drop (i.toNat * K.sz)
  rw [e2] at hd
  refine G_val (v := .pointer (some (ad.add (i.toNat * K.sz)))) (w' := w) rfl rfl hlt (fun a ha => ?_) (k _ c0 (by rw [add_block]; exact hF) hr hd.left)
  have hb : 0 ≤ i ∧ i < (xs.length : Int) := by omega
  simp [execOp, ha.eval hx, ha.eval hy, Instr.indexAt, asIntOf, run_underlying hu, e1, hb, hi.size]

/-- The address of an element of an array in a block. -/
theorem s_idxB {g off : Nat} {i : Int} {e : TypeId} {m sz by_ : Nat} {zv : Value} (hx : ev E x = some (.pointer (some ⟨g, off, none⟩))) (hy : ev E y = some (iv i)) (h0 : 0 ≤ i) (h1 : i < m)
    (hu : P.underlying t = some (.array m e)) (hi : Inf P e zv sz by_) (k : G P n ops Q rest ((d, .pointer (some ⟨g, off + i.toNat * sz, none⟩)) :: E) w) (hlt : d < n := by decide) :
    G P n ops Q (⟨some d, .indexAddr t x y, ty, pos, af, none⟩ :: rest) E w :=
  G_val rfl rfl hlt (fun a ha => by
    have hb : 0 ≤ i ∧ i < (m : Int) := ⟨h0, h1⟩
    simp [execOp, ha.eval hx, ha.eval hy, Instr.indexAt, asIntOf, run_underlying hu, Instr.sureAddr, hb, hi.size, add_none]) k

/-- An element of an array that lies in a slot. -/
theorem s_index {cs : List Value} {i : Int} {e : TypeId} {m by_ : Nat} {zv u : Value} {de : TypeDesc} (hx : ev E x = some (.agg cs.toArray)) (hy : ev E y = some (iv i)) (h0 : 0 ≤ i) (h1 : i < m) (hg : cs[i.toNat]? = some u)
    (hu : P.underlying t = some (.array m e)) (he : P.underlying e = some de) (hi : Inf P e zv 1 by_) (k : G P n ops Q rest ((d, u) :: E) w) (hde : oneD de = true := by rfl) (hlt : d < n := by decide) :
    G P n ops Q (⟨some d, .index t x y, ty, pos, af, none⟩ :: rest) E w :=
  G_val rfl rfl hlt (fun a ha => by
    have hb : 0 ≤ i ∧ i < (m : Int) := ⟨h0, h1⟩
    have h3 := isAgg_of he w
    rw [hde] at h3
    simp [execOp, ha.eval hx, ha.eval hy, Instr.index, asIntOf, run_underlying hu, hb, hi.size, part, h3, hg]) k
theorem s_indexS {s : ByteArray} {i : Int} {b : UInt8} (hx : ev E x = some (.string s)) (hy : ev E y = some (iv i)) (h0 : 0 ≤ i) (hg : s[i.toNat]? = some b)
    (hu : P.underlying t = some .string) (k : G P n ops Q rest ((d, u8v b) :: E) w) (hlt : d < n := by decide) :
    G P n ops Q (⟨some d, .index t x y, ty, pos, af, none⟩ :: rest) E w :=
  G_val rfl rfl hlt (fun a ha => by
    simp [execOp, ha.eval hx, ha.eval hy, Instr.index, asIntOf, run_underlying hu, h0, hg]) k

end

/-! ## append -/

theorem run_append_none' {P : Program} {w : World} (base : Nat) (t ty e : TypeId) (i : TypeInfo) (size : Nat) (ht : P.underlying t = some (.slice e)) (hi : P.info? e = some i)
    (v : Value) (n : Nat) (xs : List Value) (hown : w.ownsRow base e size v n xs) (c : Nat) :
    (Builtin.append_ #[t, t] ty #[v, .slice none 0 c]).run P w = .ok v w := by
  rcases hown.2 with ⟨rfl, rfl⟩ | ⟨g, cap, cur, rfl, _, _, hnc, _⟩
  · simp [Builtin.append_, run_underlying ht, sizeOf, typeInfo, hi, Builtin.lenOf, Builtin.firstCells]
  · simp [Builtin.append_, run_underlying ht, sizeOf, typeInfo, hi, Builtin.lenOf, Builtin.firstCells, hnc, storeCells]

theorem ownBlock_ge {B : Nat} {e : TypeId} {size n : Nat} {w : World} {v : Value} {xs : List Value} (h : w.ownsRow B e size v n xs) : ∀ k, v.ownBlock = some k → B ≤ k ∧ k < w.heap.size := h.lt

/-- What append makes of cells. -/
theorem run_append {α : Type} {P : Program} {w : World} {K : Kd α} {F' : Nat → Prop} {B : Nat} {t ty e : TypeId} {v v2 : Value} {n : Nat} {cs : List Value} {ys : List α} {zv : Value} {by_ : Nat}
    (hown : w.ownsRow B e K.sz v n cs) (hys : K.Sl F' w v2 ys) (hu : P.underlying t = some (.slice e)) (hi : Inf P e zv K.sz by_) (hzs : zv.cells.size = K.sz)
    (hlen : n + ys.length ≤ maxLen) (hby : (n + ys.length) * by_ ≤ 140737488355328) (hB : B ≤ w.heap.size) :
    ∃ v' w' ds, (Builtin.append_ #[t, t] ty #[v, v2]).run P w = .ok v' w' ∧ K.Els F' w ds ys ∧ w'.ownsRow B e K.sz v' (n + ys.length) (cs ++ ds) ∧ w.grownBy w' v.ownBlock := by
  obtain ⟨i, hi1, hi2, hi3, hi4⟩ := info_parts hi
  obtain ⟨A, c, ds, e2, h1, h2, h3, h4⟩ := hys
  subst e2
  cases ys with
  | nil =>
    have hd : ds = [] := List.eq_nil_of_length_eq_zero (by have := h3.len; simpa using this)
    subst hd
    cases A with
    | none =>
      exact ⟨v, w, [], run_append_none' B t ty e i K.sz hu hi1 v n cs hown c, h3, by simpa using hown, World.grownBy.refl w _⟩
    | some ad =>
      obtain ⟨v', w', hr, ho, hg, _⟩ := run_append_own (P := P) w B t ty e i zv K.sz by_ hu hi1 hi2 hi3 hi4 hzs K.pos v n cs hown ad 0 c [] (by simp) (by intro j u hj; simp at hj) (by intro u hu; cases hu) (by simpa using hlen) (by simpa using hby) hB
      exact ⟨v', w', [], hr, h3, by simpa using ho, hg⟩
  | cons y0 yr =>
    obtain ⟨ad, rfl, _, hcell⟩ := h4 (by simp)
    obtain ⟨v', w', hr, ho, hg, _⟩ := run_append_own (P := P) w B t ty e i zv K.sz by_ hu hi1 hi2 hi3 hi4 hzs K.pos v n cs hown ad (y0 :: yr).length c ds (by rw [h3.len]) hcell h3.one hlen hby hB
    exact ⟨v', w', ds, hr, h3, ho, hg⟩

section
variable {P : Program} {n : Nat} {E : Env} {w : World} {Q : Exit → Env → World → Prop} {ops : Array Oper} {rest : List Oper} {o : Oper} {d : Nat}
variable {x y z : Operand} {t t' ty : TypeId} {pos : String} {af : Array Edge}

/-- A kind whose cells lead nowhere. -/
def Kd.Flat {α : Type} (K : Kd α) : Prop := ∀ {F : Nat → Prop} {w : World} {F' : Nat → Prop} {w' : World} {cs : List Value} {x : α}, K.R F w cs x → K.R F' w' cs x
theorem Kd.Els.flat {α : Type} {K : Kd α} (hf : K.Flat) {F F' : Nat → Prop} {w w' : World} {cs : List Value} {xs : List α} (h : K.Els F w cs xs) : K.Els F' w' cs xs := by
  induction h with
  | nil => exact .nil
  | cons hr _ ih => exact .cons (hf hr) ih

/-- append: a row of the call's own, and a slice that reads as a list; flat elements. -/
theorem s_append {α : Type} {K : Kd α} {F F' : Nat → Prop} {B : Nat} {e : TypeId} {s : Operand} {v v2 : Value} {xs ys : List α} {zv : Value} {by_ : Nat}
    (hs : ev E s = some v) (hx : ev E x = some v2) (hown : K.Own F B e w v xs) (hys : K.Sl F' w v2 ys) (hu : P.underlying t = some (.slice e)) (hi : Inf P e zv K.sz by_) (hzs : zv.cells.size = K.sz)
    (hflat : K.Flat) (hlen : xs.length + ys.length ≤ maxLen) (hby : (xs.length + ys.length) * by_ ≤ 140737488355328) (hB : B ≤ w.heap.size)
    (k : ∀ v' w', K.Own F B e w' v' (xs ++ ys) → w.grownBy w' v.ownBlock → Below B w w' → G P n ops Q rest ((d, v') :: E) w') (hlt : d < n := by decide) :
    G P n ops Q (⟨some d, .call ⟨.builtin .append, #[s, x], #[t, t]⟩, ty, pos, af, none⟩ :: rest) E w := by
  obtain ⟨cs, ho, hels⟩ := hown
  obtain ⟨v', w', ds, hr, hd, ho', hg⟩ := run_append (ty := ty) ho hys hu hi hzs hlen hby hB
  refine G_val (v := v') (w' := w') rfl rfl hlt (fun a ha => ?_) (k v' w' ⟨cs ++ ds, by rw [List.length_append]; exact ho', (hels.flat hflat).append (hd.flat hflat)⟩ hg ?_)
  · simp [execOp, resolve, invoke, builtin, ha.eval hs, ha.eval hx, hr]
  · exact (Below.refl _ _).grown hg hB fun k hk => (ownBlock_ge ho k hk).1

/-- append: elements that lead on, to what is not the row itself. -/
theorem s_appendN {α : Type} {K : Kd α} {F F' : Nat → Prop} {B : Nat} {e : TypeId} {s : Operand} {v v2 : Value} {xs ys : List α} {zv : Value} {by_ : Nat}
    (hs : ev E s = some v) (hx : ev E x = some v2) (hown : K.Own F B e w v xs) (hys : K.Sl F' w v2 ys) (hu : P.underlying t = some (.slice e)) (hi : Inf P e zv K.sz by_) (hzs : zv.cells.size = K.sz)
    (hF : ∀ k, k < w.heap.size → F k → some k ≠ v.ownBlock) (hF' : ∀ k, k < w.heap.size → F' k → F k) (hlen : xs.length + ys.length ≤ maxLen) (hby : (xs.length + ys.length) * by_ ≤ 140737488355328) (hB : B ≤ w.heap.size)
    (k : ∀ v' w', K.Own F B e w' v' (xs ++ ys) → w.grownBy w' v.ownBlock → Below B w w' → G P n ops Q rest ((d, v') :: E) w') (hlt : d < n := by decide) :
    G P n ops Q (⟨some d, .call ⟨.builtin .append, #[s, x], #[t, t]⟩, ty, pos, af, none⟩ :: rest) E w := by
  obtain ⟨cs, ho, hels⟩ := hown
  obtain ⟨v', w', ds, hr, hd, ho', hg⟩ := run_append (ty := ty) ho hys hu hi hzs hlen hby hB
  have hk : ∀ k, k < w.heap.size → F k → w'.heap[k]? = w.heap[k]? := fun k hl hf => hg.block k hl (hF k hl hf)
  refine G_val (v := v') (w' := w') rfl rfl hlt (fun a ha => ?_) (k v' w' ⟨cs ++ ds, by rw [List.length_append]; exact ho', (hels.keep hk).append ((hd.mono hF').keep hk)⟩ hg ?_)
  · simp [execOp, resolve, invoke, builtin, ha.eval hs, ha.eval hx, hr]
  · exact (Below.refl _ _).grown hg hB fun k hk => (ownBlock_ge ho k hk).1

/-- A slice literal whose elements are one cell each. -/
theorem s_buildSlice {α : Type} {K : Kd α} {F : Nat → Prop} {e : TypeId} {m : Nat} {parts : List (Nat × Operand)} {vs cs : List Value} {xs : List α} {zv : Value} {by_ : Nat}
    (hv : evs E (parts.map (·.2)) = some vs) (hu : P.underlying t = some (.slice e)) (hi : Inf P e zv K.sz by_) (hm : m = xs.length) (hsmall : m * K.sz ≤ 16777216)
    (hfill : Instr.fill (fun i => some (i * K.sz, K.sz)) ((Array.range (m * K.sz)).map (zv.cells[· % zv.cells.size]!)) ((parts.map (·.1)).zip vs) = some cs.toArray) (hpos : 0 < m)
    (hels : K.Els F w cs xs)
    (k : ∀ v' w', K.Own F w.heap.size e w' v' xs → Ext w w' → G P n ops Q rest ((d, v') :: E) w') (hlt : d < n := by decide) :
    G P n ops Q (⟨some d, .buildSlice t m parts.toArray, ty, pos, af, none⟩ :: rest) E w := by
  have hmax : m ≤ maxLen := by
    have := K.pos
    have : m * 1 ≤ m * K.sz := Nat.mul_le_mul_left m K.pos
    simp only [maxLen]
    omega
  have hn : ¬ m * K.sz = 0 := fun h => by
    have := Nat.mul_pos hpos K.pos
    omega
  refine G_val (v := .slice (some ⟨w.heap.size, 0, none⟩) m m) (w' := w.alloc (.cells cs.toArray e)) rfl rfl hlt (fun a ha => ?_) (k _ _ ⟨cs, ?_, ?_⟩ (Ext.alloc _ _))
  · have h1 := ha.evals hv
    have h2 : (parts.toArray.map fun (i, x) => (i, a.eval x)).toList = (parts.map (·.1)).zip vs := by
      rw [← h1]
      simp [List.zip_map']
    have h3 : ¬ (m * K.sz > 16777216) := by omega
    simp only [execOp, Instr.buildSlice]
    simp only [Sem.run_bind, run_underlying hu, Result.andThen_ok, hi.size, hi.zero, Sem.run_pure, h2]
    simp [h3, hn, hi.zero, hfill, newRow]
  · rw [← hm]
    have := World.ownsRow_lit (base := w.heap.size) (e := e) (size := K.sz) w cs.toArray m (Nat.le_refl _) hmax (by have := hels.len; simp [this, hm])
    simpa using this
  · exact hels.keep fun k hk _ => (Ext.alloc w _).block k hk
end
end Go.Proofs.YtdaphjnenookiaaDoor
