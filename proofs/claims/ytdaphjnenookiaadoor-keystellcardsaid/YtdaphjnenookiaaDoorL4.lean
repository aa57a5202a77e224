/- A layer of lemmas: one operation of the model, one step of a walk; it says nothing of a program. -/
import Derived.Test.YtdaphjnenookiaaDoorL3
namespace Go.Proofs.YtdaphjnenookiaaDoor
open Go Go.RowKit
set_option linter.unusedVariables false
set_option linter.unusedSimpArgs false

section
variable {P : Program} {n : Nat} {E : Env} {w : World} {Q : Exit → Env → World → Prop} {ops : Array Oper} {rest : List Oper} {o : Oper} {d : Nat}

theorem G_nil (h : Q .normal E w) : G P n ops Q [] E w := fun a ha => wpList_nil ⟨E, ha, h⟩

theorem C_region {id : Nat} {l : List Oper} (h : G P n l.toArray Q l E w) : C P n (.region id l.toArray false) Q E w := fun a ha => wp_region_lit (h a ha)

/-- An operation that yields a value. -/
theorem G_val {v : Value} {w' : World} (hg : o.guard = none) (hd : o.dst = some d) (hlt : d < n)
    (hrun : ∀ a, Holds n a E → (execOp a.eval o).run P w = .ok (.value v) w') (k : G P n ops Q rest ((d, v) :: E) w') : G P n ops Q (o :: rest) E w := by
  intro a ha
  refine wpList_plain hg fun K hK => ?_
  unfold Oper.wp
  rw [hrun a ha, Oper.upon_value, hd]
  exact hK _ _ (k _ (ha.put hlt))

/-- An operation that yields none. -/
theorem G_skip {w' : World} (hg : o.guard = none) (hd : o.dst = none)
    (hrun : ∀ a, Holds n a E → (execOp a.eval o).run P w = .ok .skip w') (k : G P n ops Q rest E w') : G P n ops Q (o :: rest) E w := by
  intro a ha
  refine wpList_plain hg fun K hK => ?_
  unfold Oper.wp
  rw [hrun a ha, Oper.upon_skip, hd]
  exact hK _ _ (k _ ha)

/-- A call of a function: by its contract. -/
theorem G_enter {f : FuncId} {args : Array Value} {R : Ending → World → Prop} {w1 : World} (hg : o.guard = none) (hd : o.dst = some d) (hlt : d < n)
    (hrun : ∀ a, Holds n a E → (execOp a.eval o).run P w = .ok (.enter f args) w1) (hc : Calls P f args w1 R)
    (k : ∀ e w', R e w' → ∃ v, e = .returned v ∧ G P n ops Q rest ((d, v) :: E) w') : G P n ops Q (o :: rest) E w := by
  intro a ha
  refine wpList_plain hg fun K hK => ?_
  unfold Oper.wp
  rw [hrun a ha, Oper.upon_enter]
  refine hc.mono fun e w' hR => ?_
  obtain ⟨v, rfl, hk⟩ := k e w' hR
  show K (a.put o.dst v) w'
  rw [hd]
  exact hK _ _ (hk _ (ha.put hlt))

theorem yielded_of {a : Act} {j : Nat} {b : Bool} {oj : Oper} {dj : Nat} (ha : Holds n a E) (hj : ops[j]? = some oj) (hdj : oj.dst = some dj) (hv : lk E dj = some (.bool b)) : yielded ops a.tmps j = some b := by
  have h1 := ha.2.2 _ _ hv
  have h2 : a.tmps[dj]? = some (.bool b) := by
    rw [Array.getD_eq_getD_getElem?] at h1
    cases h : a.tmps[dj]? with
    | none => rw [h] at h1; cases h1
    | some u => rw [h] at h1; simpa using h1
  simp [yielded, hj, hdj, h2]

/-- An operation whose guard says no. -/
theorem s_not {op : Op} {ty : TypeId} {pos : String} {af : Array Edge} {j : Nat} {b : Bool} {oj : Oper} {dj : Nat} (hj : ops[j]? = some oj) (hdj : oj.dst = some dj) (hv : lk E dj = some (.bool (!b)))
    (k : G P n ops Q rest ((d, undef) :: E) w) (hlt : d < n := by decide) : G P n ops Q (⟨some d, op, ty, pos, af, some (j, b)⟩ :: rest) E w := by
  intro a ha
  refine wpList_skip ?_ (k _ (ha.put hlt))
  simp only [Region.wanted, yielded_of ha hj hdj hv]
  cases b <;> rfl

/-- An operation whose guard says yes. -/
theorem s_yes {op : Op} {ty : TypeId} {pos : String} {af : Array Edge} {j : Nat} {b : Bool} {oj : Oper} {dj : Nat} {dd : Option Nat} (hj : ops[j]? = some oj) (hdj : oj.dst = some dj) (hv : lk E dj = some (.bool b))
    (k : G P n ops Q (⟨dd, op, ty, pos, af, none⟩ :: rest) E w) : G P n ops Q (⟨dd, op, ty, pos, af, some (j, b)⟩ :: rest) E w := by
  intro a ha
  have h := k a ha
  unfold wpList at h ⊢
  have e1 : Region.wanted (⟨dd, op, ty, pos, af, none⟩ : Oper) (yielded ops a.tmps) = true := by simp [Region.wanted]
  have e2 : Region.wanted (⟨dd, op, ty, pos, af, some (j, b)⟩ : Oper) (yielded ops a.tmps) = true := by
    simp only [Region.wanted, yielded_of ha hj hdj hv]
    cases b <;> rfl
  rw [if_pos e1] at h
  rw [if_pos e2]
  exact h

def plainV : Value → Bool
  | .agg _ | .nilIface => false
  | _ => true

theorem run_eqGuard {op : BinOp} {t : TypeId} {x y : Operand} {a b : Value} (h : plainV a = true) : (eqGuard op t x y a b).run P w = .ok () w := by
  unfold eqGuard
  cases a <;> first | (cases h; done) | (split <;> simp)

section ops
variable {x y z : Operand} {t t' ty : TypeId} {pos : String} {af : Array Edge}

theorem s_move {v : Value} (hx : ev E x = some v) (k : G P n ops Q rest ((d, v) :: E) w) (hlt : d < n := by decide) : G P n ops Q (⟨some d, .move x, ty, pos, af, none⟩ :: rest) E w :=
  G_val rfl rfl hlt (fun a ha => by simp [execOp, ha.eval hx]) k
theorem s_assign {v : Value} (hx : ev E x = some v) (k : G P n ops Q rest ((d, v) :: E) w) (hlt : d < n := by decide) : G P n ops Q (⟨some d, .assign x, ty, pos, af, none⟩ :: rest) E w :=
  G_val rfl rfl hlt (fun a ha => by simp [execOp, ha.eval hx]) k
theorem s_pick {c : Operand} {b : Bool} {v : Value} (hc : ev E c = some (.bool b)) (hx : ev E (bif b then x else y) = some v) (k : G P n ops Q rest ((d, v) :: E) w) (hlt : d < n := by decide) :
    G P n ops Q (⟨some d, .pick c x y, ty, pos, af, none⟩ :: rest) E w :=
  G_val rfl rfl hlt (fun a ha => by
    have h1 := ha.eval hc
    have h2 := ha.eval hx
    cases b
    · simp only [cond_false] at h2; simp [execOp, h1, asBool, h2]
    · simp only [cond_true] at h2; simp [execOp, h1, asBool, h2]) k

theorem s_bin {op : BinOp} {p q v : Value} (hx : ev E x = some p) (hy : ev E y = some q) (hv : ∀ w, (binOp op t p q).run P w = .ok v w) (k : G P n ops Q rest ((d, v) :: E) w) (hp : plainV p = true := by rfl) (hlt : d < n := by decide) :
    G P n ops Q (⟨some d, .binOp op t x y t', ty, pos, af, none⟩ :: rest) E w :=
  G_val rfl rfl hlt (fun a ha => by simp [execOp, ha.eval hx, ha.eval hy, run_eqGuard hp, hv w]) k
theorem s_un {op : UnOp} {p v : Value} (hx : ev E x = some p) (hv : ∀ w, (Op.unary op p).run P w = .ok v w) (k : G P n ops Q rest ((d, v) :: E) w) (hlt : d < n := by decide) :
    G P n ops Q (⟨some d, .unOp op t x, ty, pos, af, none⟩ :: rest) E w :=
  G_val rfl rfl hlt (fun a ha => by simp [execOp, ha.eval hx, hv w]) k
theorem s_conv {p v : Value} (hx : ev E x = some p) (hv : ∀ w, (convert t t' p).run P w = .ok v w) (k : G P n ops Q rest ((d, v) :: E) w) (hlt : d < n := by decide) :
    G P n ops Q (⟨some d, .convert t t' x, ty, pos, af, none⟩ :: rest) E w :=
  G_val rfl rfl hlt (fun a ha => by simp [execOp, ha.eval hx, hv w]) k
theorem s_extract {vs : List Value} {i : Nat} {v : Value} (hx : ev E x = some (.tuple vs.toArray)) (hi : vs[i]? = some v) (k : G P n ops Q rest ((d, v) :: E) w) (hlt : d < n := by decide) :
    G P n ops Q (⟨some d, .extract x i, ty, pos, af, none⟩ :: rest) E w :=
  G_val rfl rfl hlt (fun a ha => by simp [execOp, ha.eval hx, Instr.extract, hi]) k
theorem s_len {α : Type} {K : Kd α} {F : Nat → Prop} {v : Value} {xs : List α} {sl e : TypeId} (hx : ev E x = some v) (hs : K.Sl F w v xs) (hu : P.underlying sl = some (.slice e))
    (k : G P n ops Q rest ((d, iv xs.length) :: E) w) (hlt : d < n := by decide) :
    G P n ops Q (⟨some d, .call ⟨.builtin .len, #[x], #[sl]⟩, ty, pos, af, none⟩ :: rest) E w :=
  G_val rfl rfl hlt (fun a ha => by
    obtain ⟨A, c, cs, e, _⟩ := hs
    simp [execOp, resolve, invoke, builtin, Builtin.len_, ha.eval hx, run_underlying hu, e, goInt]) k
theorem s_len_own {α : Type} {K : Kd α} {F : Nat → Prop} {B : Nat} {T : TypeId} {v : Value} {xs : List α} {sl e : TypeId} (hx : ev E x = some v) (hs : K.Own F B T w v xs) (hu : P.underlying sl = some (.slice e))
    (k : G P n ops Q rest ((d, iv xs.length) :: E) w) (hlt : d < n := by decide) :
    G P n ops Q (⟨some d, .call ⟨.builtin .len, #[x], #[sl]⟩, ty, pos, af, none⟩ :: rest) E w :=
  G_val rfl rfl hlt (fun a ha => by
    obtain ⟨cs, ⟨_, h⟩, _⟩ := hs
    rcases h with ⟨e, h⟩ | ⟨g, cap, cur, e, _⟩
    · simp [execOp, resolve, invoke, builtin, Builtin.len_, ha.eval hx, run_underlying hu, e, goInt, h]
    · simp [execOp, resolve, invoke, builtin, Builtin.len_, ha.eval hx, run_underlying hu, e, goInt]) k
theorem s_len_str {s : ByteArray} {sl : TypeId} (hx : ev E x = some (.string s)) (hu : P.underlying sl = some .string)
    (k : G P n ops Q rest ((d, iv s.size) :: E) w) (hlt : d < n := by decide) :
    G P n ops Q (⟨some d, .call ⟨.builtin .len, #[x], #[sl]⟩, ty, pos, af, none⟩ :: rest) E w :=
  G_val rfl rfl hlt (fun a ha => by
    simp [execOp, resolve, invoke, builtin, Builtin.len_, ha.eval hx, run_underlying hu, goInt]) k

/-- A call of a function by its name. -/
theorem s_call {f : FuncId} {l : List Operand} {ats : Array TypeId} {vs : List Value} {R : Ending → World → Prop} (hargs : evs E l = some vs) (hf : ∀ args w, (callFunc f args).run P w = .ok (.enter f args) w)
    (hc : Calls P f vs.toArray w R) (k : ∀ e w', R e w' → ∃ v, e = .returned v ∧ G P n ops Q rest ((d, v) :: E) w') (hlt : d < n := by decide) :
    G P n ops Q (⟨some d, .call ⟨.value (.func f), l.toArray, ats⟩, ty, pos, af, none⟩ :: rest) E w :=
  G_enter rfl rfl hlt (fun a ha => by
    have h := ha.evals hargs
    have hm : l.toArray.map a.eval = vs.toArray := by rw [← h]; simp
    simp [execOp, resolve, invoke, Act.eval, Deferred.ofValue, h, hf]) hc k
end ops
end
end Go.Proofs.YtdaphjnenookiaaDoor
