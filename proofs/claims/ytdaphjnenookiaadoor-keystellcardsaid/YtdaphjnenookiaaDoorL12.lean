/- A layer of lemmas: one operation of the model, one step of a walk; it says nothing of a program. -/
import Derived.Test.YtdaphjnenookiaaDoorL11
namespace Go.Proofs.YtdaphjnenookiaaDoor
open Go Go.RowKit
set_option linter.unusedVariables false
set_option linter.unusedSimpArgs false

section
variable {P : Program} {n : Nat} {E : Env} {w : World} {Q : Exit → Env → World → Prop} {ops : Array Oper} {rest : List Oper} {o : Oper} {d : Nat}
variable {x y z : Operand} {t t' ty : TypeId} {pos : String} {af : Array Edge} {S : World → Prop} {gd : Option (Nat × Bool)}

theorem y_nilCheck {a0 : Addr} (hx : ev E x = some (.pointer (some a0))) : Y P n E S ⟨some d, .nilCheck x, ty, pos, af, gd⟩ (.pointer (some a0)) := fun a w ha _ => by
  simp [execOp, ha.eval hx]
/-- An array literal of no part: zeros. -/
theorem y_buildZ {m e : Nat} {zv ze : Value} {sz by_ sze bye : Nat} (hu : P.underlying t = some (.array m e)) (hi : Inf P t zv sz by_) (he : Inf P e ze sze bye) :
    Y P n E S ⟨some d, .build t #[], ty, pos, af, gd⟩ (.agg zv.cells) := by
  intro a w ha _
  simp only [execOp, Instr.build]
  simp only [Sem.run_bind, run_underlying hu, Result.andThen_ok, hi.zero, he.size, Sem.run_pure]
  simp [Instr.fill]
theorem y_makeFunc {f : FuncId} {l : List Operand} {vs : List Value} (hx : evs E l = some vs) : Y P n E S ⟨some d, .makeFunc (.func f) #[] l.toArray, ty, pos, af, gd⟩ (.func (.func f) #[] vs.toArray) := fun a w ha _ => by
  have h := ha.evals hx
  have hm : l.toArray.map a.eval = vs.toArray := by rw [← h]; simp
  simp [execOp, Instr.makeFunc, h]
/-- A call of a function value. -/
theorem s_callv {f : FuncId} {l : List Operand} {ats : Array TypeId} {vs cap : List Value} {R : Ending → World → Prop} (hx : ev E x = some (.func (.func f) #[] cap.toArray)) (hargs : evs E l = some vs) (hf : ∀ args w, (callFunc f args).run P w = .ok (.enter f args) w)
    (hc : Calls P f (vs ++ cap).toArray w R) (k : ∀ e w', R e w' → ∃ v, e = .returned v ∧ G P n ops Q rest ((d, v) :: E) w') (hlt : d < n := by decide) :
    G P n ops Q (⟨some d, .call ⟨.value x, l.toArray, ats⟩, ty, pos, af, none⟩ :: rest) E w :=
  G_enter rfl rfl hlt (fun a ha => by
    have h := ha.evals hargs
    have hm : l.toArray.map a.eval = vs.toArray := by rw [← h]; simp
    simp [execOp, resolve, invoke, Deferred.ofValue, ha.eval hx, h, hf]) hc k
theorem Kd.Els.rows3 {α : Type} {K : Kd α} {F : Nat → Prop} {v1 v2 v3 : Value} {a b c : List α} (h1 : K.Sl F w v1 a) (h2 : K.Sl F w v2 b) (h3 : K.Sl F w v3 c) : (Kd.slice K).Els F w ([v1, v2, v3].flatMap fun v => v.cells.toList) [a, b, c] := by
  have e : ∀ {v : Value} {xs : List α}, K.Sl F w v xs → v.cells.toList = [v] := fun h => by
    obtain ⟨A, c, cs, e, _⟩ := h
    rw [e]; rfl
  have e2 : ([v1, v2, v3].flatMap fun v => v.cells.toList) = [v1] ++ ([v2] ++ ([v3] ++ [])) := by
    rw [List.flatMap_cons, List.flatMap_cons, List.flatMap_cons, List.flatMap_nil, e h1, e h2, e h3]
  rw [e2]
  exact .cons ⟨_, rfl, h1⟩ (.cons ⟨_, rfl, h2⟩ (.cons ⟨_, rfl, h3⟩ .nil))
theorem rows3_sz {α : Type} {K : Kd α} {F : Nat → Prop} {v1 v2 v3 : Value} {a b c : List α} (h1 : K.Sl F w v1 a) (h2 : K.Sl F w v2 b) (h3 : K.Sl F w v3 c) : ∀ v ∈ [v1, v2, v3], v.cells.size = 1 := by
  intro v hv
  simp only [List.mem_cons, List.not_mem_nil, or_false] at hv
  rcases hv with rfl | rfl | rfl
  · exact h1.csz
  · exact h2.csz
  · exact h3.csz
theorem y_sliceStr {s : ByteArray} {lo up : Operand} {l h : Int} (hx : ev E x = some (.string s)) (hlo : ev E lo = some (iv l)) (hup : ev E up = some (iv h)) (h0 : 0 ≤ l) (h1 : l ≤ h) (h2 : h ≤ s.size) (hu : P.underlying t = some .string) :
    Y P n E S ⟨some d, .slice t x (some lo) (some up) none, ty, pos, af, gd⟩ (.string (s.extract l.toNat h.toNat)) := fun a w ha _ => by
  have e1 : (Instr.sliceBound (iv h) s.size .sliceAlen).run P w = .ok h.toNat w := run_sliceBound (by omega) (by omega)
  have e2 : (Instr.sliceBound (iv l) h.toNat .sliceB).run P w = .ok l.toNat w := run_sliceBound (by omega) (by omega)
  simp [execOp, ha.eval hx, ha.eval hlo, ha.eval hup, Instr.sliceAt, Instr.slice, run_underlying hu, Instr.sliceBounds, e1, e2]
end
theorem v_eqlB {P : Program} {T : TypeId} (hu : P.underlying T = some .bool) (a b : Bool) : ∀ w, (binOp .eql T (.bool a) (.bool b)).run P w = .ok (.bool (a == b)) w := fun w => by
  have h := run_equalIn_bool' (P := P) w 9999 T a b hu
  have e : (binOp .eql T (.bool a) (.bool b)).run P w = ((Op.equalIn 10000 T (.bool a) (.bool b)).run P w).andThen fun c w' => .ok (.bool c) w' := by
    simp only [binOp]
    simp [Op.equal, Op.maxDepth]
  rw [e, h]; rfl
theorem v_neqB {P : Program} {T : TypeId} (hu : P.underlying T = some .bool) (a b : Bool) : ∀ w, (binOp .neq T (.bool a) (.bool b)).run P w = .ok (.bool (!(a == b))) w := fun w => by
  have h := run_equalIn_bool' (P := P) w 9999 T a b hu
  have e : (binOp .neq T (.bool a) (.bool b)).run P w = ((Op.equalIn 10000 T (.bool a) (.bool b)).run P w).andThen fun c w' => .ok (.bool (!c)) w' := by
    simp only [binOp]
    simp [Op.equal, Op.maxDepth]
  rw [e, h]; rfl
/-- One block turned alone, of those that were there. -/
theorem Mod.ext {a b c : World} {r : Option Nat} (h : a.grownBy b r) (k : Ext b c) : a.grownBy c r :=
  ⟨k.os.trans h.os, k.tape.trans h.tape, k.output.trans h.output, Nat.le_trans h.size k.size, fun i hi hne => (k.block i (Nat.lt_of_lt_of_le hi h.size)).trans (h.block i hi hne)⟩
theorem Mod.grown {a b c : World} {r : Option Nat} (h : a.grownBy b r) (k : b.grownBy c r) : a.grownBy c r :=
  ⟨k.os.trans h.os, k.tape.trans h.tape, k.output.trans h.output, Nat.le_trans h.size k.size, fun i hi hne => (k.block i (Nat.lt_of_lt_of_le hi h.size) hne).trans (h.block i hi hne)⟩
theorem Mod.far {a b c : World} {r : Option Nat} {g : Nat} (h : a.grownBy b r) (k : b.grownBy c (some g)) (hg : a.heap.size ≤ g) : a.grownBy c r :=
  ⟨k.os.trans h.os, k.tape.trans h.tape, k.output.trans h.output, Nat.le_trans h.size k.size, fun i hi hne => (k.block i (Nat.lt_of_lt_of_le hi h.size) (fun e => by have e2 : i = g := (by injection e); omega)).trans (h.block i hi hne)⟩
end Go.Proofs.YtdaphjnenookiaaDoor
