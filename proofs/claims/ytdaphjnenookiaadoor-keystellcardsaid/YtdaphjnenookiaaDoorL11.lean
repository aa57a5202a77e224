/- A layer of lemmas: one operation of the model, one step of a walk; it says nothing of a program. -/
import Derived.Test.YtdaphjnenookiaaDoorL10
import Derived.Lib.ConvBytes
import Derived.Laws.StructEq
namespace Go.Proofs.YtdaphjnenookiaaDoor
open Go Go.RowKit
set_option linter.unusedVariables false
set_option linter.unusedSimpArgs false

/-- The blocks whose rows bear elements of this type. -/
def TB (w : World) (T : TypeId) (k : Nat) : Prop := ∃ cs m, w.heap[k]? = some (.cells cs T m)
theorem TB.lt {w : World} {T : TypeId} {k : Nat} (h : TB w T k) : k < w.heap.size := by
  obtain ⟨cs, m, h⟩ := h
  exact (Array.getElem?_eq_some_iff.1 h).1
theorem TB.ext {w w' : World} {T : TypeId} {k : Nat} (h : TB w T k) (hx : Ext w w') : TB w' T k := by
  have hl := h.lt
  obtain ⟨cs, m, h⟩ := h
  exact ⟨cs, m, (hx.block k hl).trans h⟩
theorem TB.ne {α : Type} {K : Kd α} {F : Nat → Prop} {B : Nat} {e T : TypeId} {w : World} {v : Value} {xs : List α} {k : Nat} (h : TB w T k) (ho : K.Own F B e w v xs) (hne : T ≠ e) : some k ≠ v.ownBlock := by
  intro he
  obtain ⟨cs, m, h⟩ := h
  obtain ⟨ds, ⟨_, k1 | ⟨g, cap, cur, k1, _, kh, _⟩⟩, _⟩ := ho
  · rw [k1.1] at he; cases he
  · rw [k1] at he
    replace he : k = g := by injection he
    subst he
    rw [h] at kh
    injection kh with kh
    injection kh with _ kh
    exact hne kh
theorem TB.grown {α : Type} {K : Kd α} {F : Nat → Prop} {B : Nat} {e T : TypeId} {w w' : World} {v : Value} {xs : List α} {k : Nat} (h : TB w T k) (ho : K.Own F B e w v xs) (hg : w.grownBy w' v.ownBlock) (hne : T ≠ e) : TB w' T k := by
  have hn := h.ne ho hne
  have hl := h.lt
  obtain ⟨cs, m, h⟩ := h
  exact ⟨cs, m, (hg.block k hl hn).trans h⟩
theorem Kd.Own.mono {α : Type} {K : Kd α} {F F' : Nat → Prop} {B : Nat} {e : TypeId} {w : World} {v : Value} {xs : List α} (h : K.Own F B e w v xs) (hk : ∀ k, k < w.heap.size → F k → F' k) : K.Own F' B e w v xs := by
  obtain ⟨cs, h1, h2⟩ := h
  exact ⟨cs, h1, h2.mono hk⟩
theorem Kd.Own.nef {α : Type} {K : Kd α} {F : Nat → Prop} {B : Nat} {e : TypeId} {w : World} {v : Value} {xs : List α} {g : Nat} (ho : K.Own F B e w v xs) (hg : w.heap.size ≤ g) : v.ownBlock ≠ some g := by
  intro he
  obtain ⟨cs, h1, _⟩ := ho
  have := (ownBlock_ge h1 g he).2
  omega
theorem Kd.Own.kn {α : Type} {K : Kd α} {F : Nat → Prop} {B : Nat} {e : TypeId} {w w' : World} {g : Nat} {v : Value} {xs : List α} (ho : K.Own F B e w v xs) (hf : K.Flat) (hg : w.grownBy w' (some g)) (hne : v.ownBlock ≠ some g) : K.Own F B e w' v xs := by
  obtain ⟨ds, ⟨h0, h1⟩, h2⟩ := ho
  refine ⟨ds, ⟨h0, ?_⟩, h2.flat hf⟩
  rcases h1 with h1 | ⟨g', cap, cur, e1, hB, hh, hr⟩
  · exact .inl h1
  · refine .inr ⟨g', cap, cur, e1, hB, ?_, hr⟩
    have hl : g' < w.heap.size := (Array.getElem?_eq_some_iff.1 hh).1
    refine (hg.block g' hl (fun he => ?_)).trans hh
    apply hne
    rw [e1]
    exact he
theorem Blk.kn {w w' : World} {g : Nat} {T : TypeId} {cs : List Value} {v : Value} (h : Blk w g T cs) (hg : w.grownBy w' v.ownBlock) (hne : v.ownBlock ≠ some g) : Blk w' g T cs :=
  (hg.block g h.lt (fun he => hne he.symm)).trans h
/-- Rows of rows: what the elements lead to is of another type than the row. -/
theorem Kd.Own.tbx {α : Type} {K : Kd α} {B : Nat} {e T : TypeId} {w w' : World} {v : Value} {xs : List α} (h : K.Own (TB w T) B e w v xs) (hx : Ext w w') : K.Own (TB w' T) B e w' v xs :=
  (h.ext hx).mono fun _ _ hk => hk.ext hx
theorem Kd.Sl.tbx {α : Type} {K : Kd α} {T : TypeId} {w w' : World} {v : Value} {xs : List α} (h : K.Sl (TB w T) w v xs) (hx : Ext w w') : K.Sl (TB w' T) w' v xs :=
  (h.ext hx).mono fun _ _ hk => hk.ext hx
theorem Kd.Own.tb {α : Type} {K : Kd α} {F : Nat → Prop} {B : Nat} {T : TypeId} {w : World} {v : Value} {xs : List α} (hf : K.Flat) (h : K.Own F B T w v xs) : K.Sl (TB w T) w v xs := by
  obtain ⟨cs, h1, h2⟩ := h
  obtain ⟨h0, k1 | ⟨g, cap, cur, k1, kB, kh, kr⟩⟩ := h1
  · obtain ⟨e1, e2⟩ := k1
    have hx : xs = [] := List.eq_nil_of_length_eq_zero e2
    subst hx
    rw [e1]
    exact Kd.Sl.nil _ _ _
  · have ho : K.Own (fun k => k = g) g T w v xs := ⟨cs, ⟨h0, .inr ⟨g, cap, cur, k1, Nat.le_refl _, kh, kr⟩⟩, h2.flat hf⟩
    have h5 : K.Sl (fun k => g ≤ k) w v xs := (Kd.Own.flat hf (F' := fun k => g ≤ k) ho).sl fun k hk => hk
    obtain ⟨A, c, cs', e, q1, q2, q3, q4⟩ := h5
    refine ⟨A, c, cs', e, q1, q2, q3.flat hf, fun hn => ?_⟩
    obtain ⟨ad, r1, r2, r3⟩ := q4 hn
    refine ⟨ad, r1, ?_, r3⟩
    rw [k1, r1] at e
    injection e with e
    injection e with e
    rw [← e]
    exact ⟨cur, (0, 0), kh⟩

section
variable {P : Program} {n : Nat} {E : Env} {w : World} {Q : Exit → Env → World → Prop} {ops : Array Oper} {rest : List Oper} {o : Oper} {d : Nat}
variable {x y z : Operand} {t t' ty : TypeId} {pos : String} {af : Array Edge}

/-- Reads as a list; of the row's own place nothing is said. -/
def Kd.Sw {α : Type} (K : Kd α) (F : Nat → Prop) (w : World) (v : Value) (xs : List α) : Prop :=
  ∃ A c cs, v = .slice A xs.length c ∧ xs.length ≤ c ∧ c ≤ maxLen ∧ K.Els F w cs xs ∧ (xs ≠ [] → ∃ ad, A = some ad ∧ CellsAt w ad cs)
theorem Kd.Sl.sw {α : Type} {K : Kd α} {F : Nat → Prop} {v : Value} {xs : List α} (h : K.Sl F w v xs) : K.Sw F w v xs := by
  obtain ⟨A, c, cs, e, q1, q2, q3, q4⟩ := h
  refine ⟨A, c, cs, e, q1, q2, q3, fun hn => ?_⟩
  obtain ⟨ad, r1, _, r3⟩ := q4 hn
  exact ⟨ad, r1, r3⟩
theorem Kd.Own.sw {α : Type} {K : Kd α} {F : Nat → Prop} {B : Nat} {e : TypeId} {v : Value} {xs : List α} (h : K.Own F B e w v xs) : K.Sw F w v xs := by
  obtain ⟨cs, h1, h2⟩ := h
  have h1' := h1
  obtain ⟨h0, k1 | ⟨g, cap, cur, k1, kB, kh, kc, km, ks, kt⟩⟩ := h1
  · have hx : xs = [] := List.eq_nil_of_length_eq_zero k1.2
    subst hx
    rw [k1.1]
    exact (Kd.Sl.nil K F w).sw
  · exact ⟨_, _, cs, k1, kc, km, h2, fun _ => ⟨_, rfl, fun j u hu => World.ownsRow.cells h1' (by rw [k1]; rfl) j u hu⟩⟩
theorem run_append2 {α : Type} {K : Kd α} {F' : Nat → Prop} {B : Nat} {e : TypeId} {v v2 : Value} {m : Nat} {cs : List Value} {ys : List α} {zv : Value} {by_ : Nat}
    (hown : w.ownsRow B e K.sz v m cs) (hys : K.Sw F' w v2 ys) (hu : P.underlying t = some (.slice e)) (hi : Inf P e zv K.sz by_) (hzs : zv.cells.size = K.sz)
    (hlen : m + ys.length ≤ maxLen) (hby : (m + ys.length) * by_ ≤ 140737488355328) (hB : B ≤ w.heap.size) :
    ∃ v' w' ds, (Builtin.append_ #[t, t] ty #[v, v2]).run P w = .ok v' w' ∧ K.Els F' w ds ys ∧ w'.ownsRow B e K.sz v' (m + ys.length) (cs ++ ds) ∧ w.grownBy w' v.ownBlock := by
  obtain ⟨i, hi1, hi2, hi3, hi4⟩ := info_parts hi
  obtain ⟨A, c, ds, e2, h1, h2, h3, h4⟩ := hys
  subst e2
  cases ys with
  | nil =>
    have hd : ds = [] := List.eq_nil_of_length_eq_zero (by have := h3.len; simpa using this)
    subst hd
    cases A with
    | none =>
      exact ⟨v, w, [], run_append_none' B t ty e i K.sz hu hi1 v m cs hown c, h3, by simpa using hown, World.grownBy.refl w _⟩
    | some ad =>
      obtain ⟨v', w', hr, ho, hg, _⟩ := run_append_own (P := P) w B t ty e i zv K.sz by_ hu hi1 hi2 hi3 hi4 hzs K.pos v m cs hown ad 0 c [] (by simp) (by intro j u hj; simp at hj) (by intro u hu; cases hu) (by simpa using hlen) (by simpa using hby) hB
      exact ⟨v', w', [], hr, h3, by simpa using ho, hg⟩
  | cons y0 yr =>
    obtain ⟨ad, rfl, hcell⟩ := h4 (by simp)
    obtain ⟨v', w', hr, ho, hg, _⟩ := run_append_own (P := P) w B t ty e i zv K.sz by_ hu hi1 hi2 hi3 hi4 hzs K.pos v m cs hown ad (y0 :: yr).length c ds (by rw [h3.len]) hcell h3.one hlen hby hB
    exact ⟨v', w', ds, hr, h3, ho, hg⟩
theorem s_appendTB {α : Type} {K : Kd α} {T : TypeId} {B : Nat} {e : TypeId} {s : Operand} {v v2 : Value} {xs ys : List α} {zv : Value} {by_ : Nat}
    (hs : ev E s = some v) (hx : ev E x = some v2) (hown : K.Own (TB w T) B e w v xs) (hys : K.Sw (TB w T) w v2 ys) (hu : P.underlying t = some (.slice e)) (hi : Inf P e zv K.sz by_) (hzs : zv.cells.size = K.sz)
    (hne : T ≠ e) (hlen : xs.length + ys.length ≤ maxLen) (hby : (xs.length + ys.length) * by_ ≤ 140737488355328) (hB : B ≤ w.heap.size)
    (k : ∀ v' w', K.Own (TB w' T) B e w' v' (xs ++ ys) → w.grownBy w' v.ownBlock → Below B w w' → G P n ops Q rest ((d, v') :: E) w') (hlt : d < n := by decide) :
    G P n ops Q (⟨some d, .call ⟨.builtin .append, #[s, x], #[t, t]⟩, ty, pos, af, none⟩ :: rest) E w := by
  have hown' := hown
  obtain ⟨cs, ho, hels⟩ := hown'
  obtain ⟨v', w', ds, hr, hd, ho', hg⟩ := run_append2 (ty := ty) ho hys hu hi hzs hlen hby hB
  have hk : ∀ k, k < w.heap.size → TB w T k → w'.heap[k]? = w.heap[k]? := fun k hl hf => hg.block k hl (hf.ne hown hne)
  have hm : ∀ k, k < w'.heap.size → TB w T k → TB w' T k := fun k _ hf => hf.grown hown hg hne
  refine G_val (v := v') (w' := w') rfl rfl hlt (fun a ha => ?_) (k v' w' ⟨cs ++ ds, by rw [List.length_append]; exact ho', ((hels.keep hk).mono hm).append ((hd.keep hk).mono hm)⟩ hg ?_)
  · simp [execOp, resolve, invoke, builtin, ha.eval hs, ha.eval hx, hr]
  · exact (Below.refl _ _).grown hg hB fun k hk => (ownBlock_ge ho k hk).1
/-- A literal of rows. -/
theorem s_litTB {α : Type} {K : Kd α} {T : TypeId} {e : TypeId} {m : Nat} {parts : List (Nat × Operand)} {vs : List Value} {xs : List α} {zv : Value} {by_ : Nat}
    (hv : evs E (parts.map (·.2)) = some vs) (hix : parts.map (·.1) = List.range' 0 vs.length) (hm : m = vs.length) (hm' : m = xs.length) (hu : P.underlying t = some (.slice e)) (hi : Inf P e zv K.sz by_) (hzs : zv.cells.size = K.sz)
    (hsmall : m * K.sz ≤ 16777216) (hpos : 0 < m) (hcs : ∀ v ∈ vs, v.cells.size = K.sz) (hels : K.Els (TB w T) w (vs.flatMap fun v => v.cells.toList) xs)
    (k : ∀ v' w', K.Own (TB w' T) w.heap.size e w' v' xs → Ext w w' → G P n ops Q rest ((d, v') :: E) w') (hlt : d < n := by decide) :
    G P n ops Q (⟨some d, .buildSlice t m parts.toArray, ty, pos, af, none⟩ :: rest) E w :=
  s_lit hv hix hm hm' hu hi hzs hsmall hpos hcs hels (fun v' w' h1 h2 => k v' w' (h1.mono fun _ _ hk => hk.ext h2) h2) hlt
theorem Kd.Sl.el {α : Type} {K : Kd α} {F : Nat → Prop} {v : Value} {xs : List α} (h : K.Sl F w v xs) : (Kd.slice K).Els F w ([v].flatMap fun v => v.cells.toList) [xs] := by
  have h1 := h
  obtain ⟨A, c, cs, e, _⟩ := h1
  have e2 : ([v].flatMap fun v => v.cells.toList) = [v] := by rw [e]; rfl
  rw [e2]
  exact Kd.Els.single ⟨v, rfl, h⟩
theorem Kd.Sl.csz {α : Type} {K : Kd α} {F : Nat → Prop} {v : Value} {xs : List α} (h : K.Sl F w v xs) : v.cells.size = 1 := by
  obtain ⟨A, c, cs, e, _⟩ := h
  rw [e]; rfl
/-- The bytes of a string. -/
theorem s_cvBytes {src e : TypeId} {s : ByteArray} {u : TypeDesc} (hx : ev E x = some (.string s)) (hs : P.underlying src = some u) (hd : P.underlying t = some (.slice e)) (he : P.underlying e = some (.int .u8)) (hl : s.size ≤ maxLen)
    (k : ∀ v' w', Kd.u8.Sl (TB w' e) w' v' s.data.toList → Ext w w' → G P n ops Q rest ((d, v') :: E) w') (hlt : d < n := by decide) :
    G P n ops Q (⟨some d, .convert src t x, ty, pos, af, none⟩ :: rest) E w := by
  have hE : Ext w (Lib.bytesWorld w e s) := by
    have h1 : Ext w (w.drew.alloc (.cells (Lib.bytesCells w e s) e)) := (Ext.drew w).trans (Ext.alloc _ _)
    refine ⟨h1.os, h1.tape, h1.output, by rw [Lib.bytesWorld_size]; omega, fun k hk => Lib.bytesWorld_at_old w e s k hk⟩
  refine G_val (v := .slice (some ⟨w.heap.size, 0, none⟩) s.size (grownCap w s.size 0 e)) (w' := Lib.bytesWorld w e s) rfl rfl hlt (fun a ha => ?_) (k _ _ ?_ hE)
  · have hr := Lib.run_convert_string_bytes w src t e s hs hd he
    simp [execOp, ha.eval hx, hr]
  · refine ⟨_, _, s.data.toList.map u8v, by rw [Array.length_toList]; rfl, by rw [Array.length_toList]; exact grownCap_ge w s.size 0 e, grownCap_le_maxLen w s.size 0 e hl, Kd.Els.map _, fun _ => ⟨_, rfl, ⟨_, _, Lib.bytesWorld_at_new w e s⟩, fun j u hu => ?_⟩⟩
    rw [List.getElem?_map] at hu
    have hj : j < s.size := by
      rcases Nat.lt_or_ge j s.size with h | h
      · exact h
      · rw [List.getElem?_eq_none (by rw [Array.length_toList]; exact h)] at hu
        cases hu
    rw [add_none, Nat.zero_add, Lib.bytesWorld_cell w e s j hj]
    rw [List.getElem?_eq_getElem (by rw [Array.length_toList]; exact hj)] at hu
    simp only [Option.map_some] at hu
    rw [← hu, List.getD_eq_getElem?_getD, List.getElem?_eq_getElem (by rw [Array.length_toList]; exact hj)]
    rfl
theorem y_binA {S : World → Prop} {gd : Option (Nat × Bool)} {op : BinOp} {xs ys : Array Value} {v : Value} (hx : ev E x = some (.agg xs)) (hy : ev E y = some (.agg ys)) (hm : P.eqGuardType P.depth t = false) (hv : ∀ w, (binOp op t (.agg xs) (.agg ys)).run P w = .ok v w) :
    Y P n E S ⟨some d, .binOp op t x y t', ty, pos, af, gd⟩ v := fun a w ha _ => by
  simp [execOp, ha.eval hx, ha.eval hy, run_eqGuard_agg w op t x y xs ys hm, hv w]
theorem run_part1 {T : TypeId} {de : TypeDesc} {cs : Array Value} {off : Nat} {v : Value} (hu : P.underlying T = some de) (hc : cs[off]? = some v) (h1 : oneD de = true := by rfl) : ∀ w, (part T cs off).run P w = .ok v w := fun w => by
  have h3 := isAgg_of hu w
  rw [h1] at h3
  simp [part, h3, hc]
theorem run_partA {T : TypeId} {de : TypeDesc} {cs : Array Value} {off m by_ : Nat} {zv : Value} (hu : P.underlying T = some de) (hi : Inf P T zv m by_) (h1 : oneD de = false := by rfl) : ∀ w, (part T cs off).run P w = .ok (.agg (cs.extract off (off + m))) w := fun w => by
  have h3 := isAgg_of hu w
  rw [h1] at h3
  simp [part, h3, hi.size]
theorem eqF_cons {d0 : Nat} {xs : Array Value} {f : Field} {fs : List Field} {a : Value} (hn : f.name ≠ "_") (hp : ∀ w, (part f.type xs f.offset).run P w = .ok a w) (he : ∀ w, (Op.equalIn d0 f.type a a).run P w = .ok true w) (hr : ∀ w, (Op.eqFields d0 xs xs fs).run P w = .ok true w) : ∀ w, (Op.eqFields d0 xs xs (f :: fs)).run P w = .ok true w := fun w => by
  simp [Op.eqFields, hn, hp w, he w, hr w]
theorem eqF_nil {d0 : Nat} {xs : Array Value} : ∀ w, (Op.eqFields d0 xs xs []).run P w = .ok true w := fun w => by simp [Op.eqFields]
theorem eq_u64 {d0 : Nat} {T : TypeId} (hu : P.underlying T = some (.int .u64)) (a : UInt64) : ∀ w, (Op.equalIn (d0 + 1) T (u64v a) (u64v a)).run P w = .ok true w := fun w => by
  have h := run_equalIn_int (P := P) w d0 T .u64 .u64 a.toNat a.toNat hu
  simp only [BEq.rfl] at h
  exact h
theorem eq_str {d0 : Nat} {T : TypeId} {fs : List Field} {xs : Array Value} (hu : P.underlying T = some (.struct fs.toArray)) (hp : P.stoodInHeld T = false) (hr : ∀ w, (Op.eqFields d0 xs xs fs).run P w = .ok true w) : ∀ w, (Op.equalIn (d0 + 1) T (.agg xs) (.agg xs)).run P w = .ok true w := fun w => by
  have hf : P.fieldsOf T = fs.toArray := by unfold Program.fieldsOf; rw [hu]
  rw [run_equalIn_agg w d0 T xs xs (by rw [hf]; exact hu) hp, hf]
  exact hr w
theorem v_eqlA {T : TypeId} {xs : Array Value} (h : ∀ w, (Op.equalIn 10000 T (.agg xs) (.agg xs)).run P w = .ok true w) : ∀ w, (binOp .eql T (.agg xs) (.agg xs)).run P w = .ok (.bool true) w := fun w => by
  rw [run_eql_struct, h w]; rfl
theorem v_neqA {T : TypeId} {xs : Array Value} (h : ∀ w, (Op.equalIn 10000 T (.agg xs) (.agg xs)).run P w = .ok true w) : ∀ w, (binOp .neq T (.agg xs) (.agg xs)).run P w = .ok (.bool false) w := fun w => by
  rw [run_neq_struct, h w]; rfl
end
end Go.Proofs.YtdaphjnenookiaaDoor
