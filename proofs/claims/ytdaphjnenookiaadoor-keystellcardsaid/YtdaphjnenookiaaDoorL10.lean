/- A layer of lemmas: one operation of the model, one step of a walk; it says nothing of a program. -/
import Derived.Test.YtdaphjnenookiaaDoorL9
namespace Go.Proofs.YtdaphjnenookiaaDoor
open Go Go.RowKit
set_option linter.unusedVariables false
set_option linter.unusedSimpArgs false

/-- Parts laid into cells, one behind the other. -/
def fillL (places : List (Nat × Nat)) : List Value → List (Nat × Value) → Option (List Value)
  | cs, [] => some cs
  | cs, (i, v) :: r => match places[i]? with
    | none => none
    | some (off, sz) => if v.cells.size = sz ∧ off + sz ≤ cs.length then fillL places (cs.take off ++ v.cells.toList ++ cs.drop (off + sz)) r else none

theorem fill_eq (places : List (Nat × Nat)) : ∀ (parts : List (Nat × Value)) (cs out : List Value), fillL places cs parts = some out → Instr.fill (places.toArray[·]?) cs.toArray parts = some out.toArray
  | [], cs, out, h => by simp only [fillL, Option.some.injEq] at h; subst h; rfl
  | (i, v) :: r, cs, out, h => by
    simp only [fillL] at h
    cases hp : places[i]? with
    | none => rw [hp] at h; cases h
    | some q =>
      obtain ⟨off, sz⟩ := q
      rw [hp] at h
      simp only at h
      split at h
      · rename_i hc
        obtain ⟨h1, h2⟩ := hc
        simp only [Instr.fill]
        rw [show places.toArray[i]? = some (off, sz) from by simpa using hp]
        simp only
        have hno : ¬ (v.cells.size ≠ sz ∨ off + v.cells.size > cs.toArray.size) := by
          rw [h1]
          intro h
          rcases h with h | h
          · exact h rfl
          · simp at h; omega
        have hno' : ¬ ((decide (v.cells.size ≠ sz) || decide (off + v.cells.size > cs.toArray.size)) = true) := by
          simpa only [Bool.or_eq_true, decide_eq_true_eq] using hno
        rw [if_neg hno']
        have hf : (v.cells.zipIdx.foldl (fun cs (p : Value × Nat) => cs.setIfInBounds (off + p.2) p.1) cs.toArray) = (cs.take off ++ v.cells.toList ++ cs.drop (off + sz)).toArray := by
          apply Array.toList_inj.1
          rw [← Array.foldl_toList]
          have := fold_set v.cells.toList 0 off cs.toArray (by simp [h1]; omega)
          simpa [h1] using this
        exact (congrArg (fun z => Instr.fill _ z r) hf).trans (fill_eq places r _ out h)
      · cases h

theorem Blk.far {w w' : World} {g g' : Nat} {T : TypeId} {cs : List Value} (h : Blk w g T cs) (hg : w.grownBy w' (some g')) (hne : g ≠ g') : Blk w' g T cs :=
  (hg.block g h.lt (fun e => hne (Option.some.inj e))).trans h
theorem Blk.kd {α : Type} {K : Kd α} {F : Nat → Prop} {B : Nat} {e : TypeId} {w w' : World} {g : Nat} {T : TypeId} {cs : List Value} {v : Value} {xs : List α} (h : Blk w g T cs) (ho : K.Own F B e w v xs) (hg : w.grownBy w' v.ownBlock) (hne : T ≠ e) : Blk w' g T cs := by
  refine (hg.block g h.lt (fun he => ?_)).trans h
  obtain ⟨ds, ⟨_, h1 | ⟨g', cap, cur, e1, _, hh, _⟩⟩, _⟩ := ho
  · rw [h1.1] at he; cases he
  · rw [e1] at he
    injection he with he
    replace he : g = g' := he
    subst he
    have h2 : w.heap[g]? = some (.cells cs.toArray T (0, 0)) := h
    rw [hh] at h2
    injection h2 with h2
    injection h2 with _ h3
    exact hne h3.symm
theorem Kd.Own.kb {α : Type} {K : Kd α} {F : Nat → Prop} {B : Nat} {e : TypeId} {w w' : World} {g : Nat} {T : TypeId} {cs : List Value} {v : Value} {xs : List α} (ho : K.Own F B e w v xs) (hb : Blk w g T cs) (hf : K.Flat) (hg : w.grownBy w' (some g)) (hne : T ≠ e) : K.Own F B e w' v xs := by
  obtain ⟨ds, ⟨h0, h1⟩, h2⟩ := ho
  refine ⟨ds, ⟨h0, ?_⟩, h2.flat hf⟩
  rcases h1 with h1 | ⟨g', cap, cur, e1, hB, hh, hr⟩
  · exact .inl h1
  · refine .inr ⟨g', cap, cur, e1, hB, ?_, hr⟩
    have hl : g' < w.heap.size := (Array.getElem?_eq_some_iff.1 hh).1
    refine (hg.block g' hl (fun he => ?_)).trans hh
    replace he : g' = g := by injection he
    subst he
    have h3 : w.heap[g']? = some (.cells cs.toArray T (0, 0)) := hb
    rw [hh] at h3
    injection h3 with h3
    injection h3 with _ h3
    exact hne h3.symm
theorem Kd.Own.ko {α β : Type} {K : Kd α} {K2 : Kd β} {F F2 : Nat → Prop} {B B2 : Nat} {e e2 : TypeId} {w w' : World} {v v2 : Value} {xs : List α} {ys : List β} (ho : K.Own F B e w v xs) (ho2 : K2.Own F2 B2 e2 w v2 ys) (hf : K.Flat) (hg : w.grownBy w' v2.ownBlock) (hne : e2 ≠ e) : K.Own F B e w' v xs := by
  obtain ⟨ds, ⟨h0, h1⟩, h2⟩ := ho
  refine ⟨ds, ⟨h0, ?_⟩, h2.flat hf⟩
  rcases h1 with h1 | ⟨g', cap, cur, e1, hB, hh, hr⟩
  · exact .inl h1
  · refine .inr ⟨g', cap, cur, e1, hB, ?_, hr⟩
    have hl : g' < w.heap.size := (Array.getElem?_eq_some_iff.1 hh).1
    refine (hg.block g' hl (fun he => ?_)).trans hh
    obtain ⟨cs, ⟨_, k1 | ⟨g3, cap3, cur3, k1, _, kh, _⟩⟩, _⟩ := ho2
    · rw [k1.1] at he; cases he
    · rw [k1] at he
      replace he : g' = g3 := by injection he
      subst he
      rw [hh] at kh
      injection kh with kh
      injection kh with _ kh
      exact hne kh.symm
theorem Blk.el {α : Type} {f : α → Value} {w : World} {g o j : Nat} {T : TypeId} {l : List α} {x : α} (h : Blk w g T (l.map f)) (hx : l[j]? = some x) (ho : o = j) : CellsAt w ⟨g, o, none⟩ [f x] := by
  subst ho
  have h1 := h.at_ o
  have h2 : (l.map f).drop o = f x :: (l.map f).drop (o + 1) := by
    obtain ⟨h3, h4⟩ := List.getElem?_eq_some_iff.1 hx
    rw [List.drop_eq_getElem_cons (by simpa using h3)]
    simp [h4]
  rw [h2] at h1
  exact CellsAt.left (ds := (l.map f).drop (o + 1)) h1
theorem one_map {α : Type} {f : α → Value} (hf : ∀ x, (f x).oneCell' = true) (l : List α) : (Value.agg (l.map f).toArray).cells.toList.all Value.oneCell' = true := by
  simp only [Value.cells, List.all_map, List.all_eq_true]
  intro x _
  exact hf x
/-- The whole of a block written. -/
theorem Blk.whole {w : World} {g : Nat} {T : TypeId} {cs ds es : List Value} {m : Nat} (h : Blk w g T (cs.take 0 ++ ds ++ cs.drop (0 + m))) (hm : cs.length = m) (e : ds = es) : Blk w g T es := by
  have h2 : cs.drop (0 + m) = [] := List.drop_of_length_le (by omega)
  rw [h2, e] at h
  simpa using h
theorem Kd.Own.flat {α : Type} {K : Kd α} (hf : K.Flat) {F F' : Nat → Prop} {B : Nat} {E : TypeId} {w : World} {v : Value} {xs : List α} (h : K.Own F B E w v xs) : K.Own F' B E w v xs := by
  obtain ⟨cs, h1, h2⟩ := h
  exact ⟨cs, h1, h2.flat hf⟩
/-- A block that begins so. -/
def PreAt {α : Type} (f : α → Value) (w : World) (g : Nat) (T : TypeId) (l : List α) : Prop := ∃ l' : List α, Blk w g T (l'.map f) ∧ l'.take l.length = l
theorem PreAt.el {α : Type} {f : α → Value} {w : World} {g o j : Nat} {T : TypeId} {l : List α} {x : α} (h : PreAt f w g T l) (hx : l[j]? = some x) (ho : o = j) : CellsAt w ⟨g, o, none⟩ [f x] := by
  obtain ⟨l', h1, h2⟩ := h
  refine h1.el ?_ ho
  rw [← hx, ← h2, List.getElem?_take, if_pos]
  obtain ⟨h3, _⟩ := List.getElem?_eq_some_iff.1 hx
  exact h3

section
variable {P : Program} {n : Nat} {E : Env} {w : World} {Q : Exit → Env → World → Prop} {ops : Array Oper} {rest : List Oper} {o : Oper} {d : Nat} {S : World → Prop}
variable {x y z : Operand} {t t' ty : TypeId} {pos : String} {af : Array Edge} {gd : Option (Nat × Bool)}

/-- A struct literal. -/
theorem y_build {parts : List (Nat × Operand)} {vs cs : List Value} {fs : Array Field} {places : List (Nat × Nat)} {zv : Value} {sz by_ : Nat}
    (hv : evs E (parts.map (·.2)) = some vs) (hu : P.underlying t = some (.struct fs)) (hi : Inf P t zv sz by_) (hpl : ∀ w, Sem.run P (fs.mapM fun (f : Field) => (do pure (f.offset, ← sizeOf f.type) : Sem (Nat × Nat))) w = .ok places.toArray w)
    (hfill : fillL places zv.cells.toList ((parts.map (·.1)).zip vs) = some cs) : Y P n E S ⟨some d, .build t parts.toArray, ty, pos, af, gd⟩ (.agg cs.toArray) := by
  intro a w ha _
  have h1 := ha.evals hv
  have h2 : (parts.toArray.map fun (i, x) => (i, a.eval x)).toList = (parts.map (·.1)).zip vs := by
    rw [← h1]
    simp [List.zip_map']
  have h3 := fill_eq places _ _ _ hfill
  simp only [Array.toArray_toList] at h3
  simp only [execOp, Instr.build]
  simp only [Sem.run_bind, run_underlying hu, Result.andThen_ok, hi.zero, hpl, Sem.run_pure, h2, h3]

/-- An array literal, all its elements written out. -/
theorem y_buildA {parts : List (Nat × Operand)} {vs : List Value} {m e : Nat} {zv ze : Value} {sz by_ sze bye : Nat}
    (hv : evs E (parts.map (·.2)) = some vs) (hix : parts.map (·.1) = List.range' 0 vs.length) (hu : P.underlying t = some (.array m e)) (hi : Inf P t zv sz by_) (he : Inf P e ze sze bye)
    (hcs : ∀ v ∈ vs, v.cells.size = sze) (hsz : zv.cells.size = vs.length * sze) : Y P n E S ⟨some d, .build t parts.toArray, ty, pos, af, gd⟩ (.agg (vs.flatMap fun v => v.cells.toList).toArray) := by
  intro a w ha _
  have h1 := ha.evals hv
  have h2 : (parts.toArray.map fun (i, x) => (i, a.eval x)).toList = (parts.map (·.1)).zip vs := by
    rw [← h1]
    simp [List.zip_map']
  have h3 := fill_all vs 0 zv.cells hcs (by rw [hsz]; simp)
  have h4 : List.drop (vs.length * sze) zv.cells.toList = [] := List.drop_of_length_le (by simp [hsz])
  simp only [Nat.zero_add, Nat.zero_mul, List.take_zero, List.nil_append, h4, List.append_nil] at h3
  simp only [execOp, Instr.build]
  simp only [Sem.run_bind, run_underlying hu, Result.andThen_ok, hi.zero, he.size, Sem.run_pure, h2, hix, h3]

theorem un_xor32 {x : UInt32} : ∀ w, (Op.unary .xor (u32v x)).run P w = .ok (u32v (~~~x)) w := fun w => by
  have h := (4294967295#32 ^^^ x.toBitVec).isLt
  have e : (((4294967295#32 ^^^ x.toBitVec).toNat : Nat) : Int) % 4294967296 = (((~~~x).toNat : Nat) : Int) := by
    have e2 : 4294967295#32 ^^^ x.toBitVec = ~~~x.toBitVec := by
      rw [show (4294967295#32 : BitVec 32) = BitVec.allOnes 32 from rfl, BitVec.allOnes_xor]
    rw [e2]
    show _ = (((~~~x.toBitVec).toNat : Nat) : Int)
    have := (~~~x.toBitVec).isLt
    omega
  have hm : BitVec.ofInt 32 (IntKind.u32.max) = 4294967295#32 := by decide
  simp only [Op.unary, Op.intBits, IntKind.bits, IntKind.signed, ofInt32, IntKind.wrap_u32, Sem.run_pure, Bool.false_eq_true, if_false]
  rw [show BitVec.ofInt 32 (IntKind.u32.max) = 4294967295#32 from hm]
  exact congrArg (fun z => Result.ok (Value.int _ z) w) e

/-- A slice turned into an array's address: it is long enough. -/
theorem s_toArr {α : Type} {K : Kd α} {F : Nat → Prop} {v : Value} {xs : List α} {m e : Nat} (hx : ev E x = some v) (hs : K.Sl F w v xs) (hu : P.underlying t = some (.array m e)) (hm : m = xs.length) (hne : xs ≠ [])
    (k : ∀ ad cs, F ad.block → K.Els F w cs xs → CellsAt w ad cs → G P n ops Q rest ((d, .pointer (some ad)) :: E) w) (hlt : d < n := by decide) :
    G P n ops Q (⟨some d, .sliceToArrayPointer t x, ty, pos, af, none⟩ :: rest) E w := by
  obtain ⟨A, c, cs, e1, hc1, hc2, he, hcell⟩ := hs
  obtain ⟨ad, rfl, hF, hcs⟩ := hcell hne
  refine G_val (v := .pointer (some ad)) (w' := w) rfl rfl hlt (fun a ha => ?_) (k ad cs hF he hcs)
  have : ¬ xs.length < m := by omega
  simp [execOp, ha.eval hx, Instr.arrayAt, run_underlying hu, e1, this]

/-- copy into an array of the call's own that lies in a block: cells of one. -/
theorem s_copyB {α : Type} {f : α → Value} {hf : ∀ x, (f x).oneCell' = true} {F : Nat → Prop} {g off c l : Nat} {T0 e : TypeId} {v2 zv : Value} {by_ : Nat} {cs : List Value} {ys : List α} (hx : ev E x = some (.slice (some ⟨g, off, none⟩) l c)) (hy : ev E y = some v2)
    (hb : Blk w g T0 cs) (hys : (Kd.flat f hf).Sl F w v2 ys) (hu : P.underlying t = some (.slice e)) (hi : Inf P e zv 1 by_) (hl : off + l ≤ cs.length)
    (k : ∀ w', w.grownBy w' (some g) → Blk w' g T0 (cs.take off ++ (ys.take l).map f ++ cs.drop (off + (ys.take l).length)) → G P n ops Q rest ((d, iv (ys.take l).length) :: E) w') (hlt : d < n := by decide) :
    G P n ops Q (⟨some d, .call ⟨.builtin .copy, #[x, y], #[t, t']⟩, ty, pos, af, none⟩ :: rest) E w := by
  obtain ⟨A, cc, ds, e1, hc1, hc2, he, hcell⟩ := hys
  have hds : ds = ys.map f := he.unmap
  subst hds
  subst e1
  have hlen : Nat.min ys.length l = (ys.take l).length := by simp [Nat.min_comm]
  have hfc : (Builtin.firstCells 1 (Nat.min ys.length l) (.slice A ys.length cc)).run P w = .ok ((ys.take l).map f).toArray w := by
    cases ys with
    | nil =>
      simp at hlen
      cases A with
      | none => simp [Builtin.firstCells]
      | some ad =>
        have h0 := run_loadCells_list (P := P) w ad [] (by intro j u hu; simp at hu)
        have e0 : Nat.min ([] : List α).length l * 1 = ([] : List Value).length := by simp
        simp only [Builtin.firstCells, e0, h0]
        simp
    | cons y0 yr =>
      obtain ⟨ad, rfl, _, hcs⟩ := hcell (by simp)
      have hc2 : CellsAt w ad (((y0 :: yr).take l).map f) := by
        rw [List.map_take]
        exact hcs.take l
      have h0 := run_loadCells_list (P := P) w ad (((y0 :: yr).take l).map f) hc2
      have e0 : Nat.min (y0 :: yr).length l * 1 = (((y0 :: yr).take l).map f).length := by rw [Nat.mul_one, hlen, List.length_map]
      simp only [Builtin.firstCells, e0, h0]
  have h1 : ∀ u ∈ (ys.take l).map f, u.oneCell' = true := by
    intro u hu
    obtain ⟨q, _, rfl⟩ := List.mem_map.1 hu
    exact hf q
  have hst := run_storeCells_at P g off T0 ((ys.take l).map f) 0 cs.toArray w hb (by simp; omega) h1
  simp only [Nat.add_zero, List.toList_toArray, List.length_map] at hst
  refine G_val (v := iv (ys.take l).length) (w' := w.setRow g (cs.take off ++ (ys.take l).map f ++ cs.drop (off + (ys.take l).length)).toArray) rfl rfl hlt (fun a ha => ?_) (k _ ?_ ?_)
  · simp only [execOp, resolve, invoke, builtin]
    simp [ha.eval hx, ha.eval hy, Builtin.copy_, run_underlying hu, Builtin.lenOf, hi.size]
    have hfc' := hfc
    rw [hfc']
    simp only [Result.andThen_ok, List.toList_toArray, hst]
    have hmin : Nat.min ys.length l = min l ys.length := Nat.min_comm _ _
    simp [hmin, goInt]
  · refine ⟨rfl, rfl, rfl, by simp, fun k hk hne => ?_⟩
    simp only [World.setRow, Array.getElem?_modify]
    rw [if_neg (fun e => hne (by rw [e]))]
  · exact setRow_heap w g _ _ _ _ hb
end
/-- A byte of a string, at a place that a byte tells. -/
theorem y_indexS8 {P : Program} {n : Nat} {E : Env} {S : World → Prop} {d : Nat} {t : TypeId} {x y : Operand} {ty : TypeId} {pos : String} {af : Array Edge} {gd : Option (Nat × Bool)} {s : ByteArray} {k : UInt8} {b : UInt8} (hx : ev E x = some (.string s)) (hy : ev E y = some (u8v k)) (hg : s[k.toNat]? = some b)
    (hu : P.underlying t = some .string) : Y P n E S ⟨some d, .index t x y, ty, pos, af, gd⟩ (u8v b) := fun a w ha _ => by
  simp [execOp, ha.eval hx, ha.eval hy, Instr.index, u8v, asIntOf, run_underlying hu, hg]
end Go.Proofs.YtdaphjnenookiaaDoor
