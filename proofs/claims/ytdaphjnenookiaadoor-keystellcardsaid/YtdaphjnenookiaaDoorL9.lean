/- A layer of lemmas: one operation of the model, one step of a walk; it says nothing of a program. -/
import Derived.Test.YtdaphjnenookiaaDoorL8
namespace Go.Proofs.YtdaphjnenookiaaDoor
open Go Go.RowKit
set_option linter.unusedVariables false
set_option linter.unusedSimpArgs false

section
variable {P : Program} {n : Nat} {E : Env} {w : World} {Q : Exit → Env → World → Prop} {ops : Array Oper} {rest : List Oper} {o : Oper} {d : Nat} {S : World → Prop}
variable {x y z : Operand} {t t' ty : TypeId} {pos : String} {af : Array Edge} {gd : Option (Nat × Bool)}

theorem Holds.know {a : Act} {j : Nat} {b c : Bool} (ha : Holds n a E) (h : lk E j = some (.bool b)) (hb : b = c) : Holds n a ((j, .bool c) :: E) := by
  subst hb
  refine ⟨ha.1, ha.2.1, fun t v hv => ?_⟩
  simp only [lk] at hv
  by_cases hk : j = t
  · subst hk
    simp only [Nat.beq_refl, cond_true, Option.some.injEq] at hv
    subst hv
    exact ha.2.2 _ _ h
  · rw [beq_false hk] at hv
    exact ha.2.2 _ _ hv

/-- A bool that lies in a slot: both cases. -/
theorem G_case (j : Nat) {b : Bool} (h : lk E j = some (.bool b)) (ht : b = true → G P n ops Q rest ((j, .bool true) :: E) w) (hf : b = false → G P n ops Q rest ((j, .bool false) :: E) w) : G P n ops Q rest E w := fun a ha => by
  cases hb : b with
  | true => exact ht hb a (ha.know h hb)
  | false => exact hf hb a (ha.know h hb)
theorem GA_case (j : Nat) {b : Bool} {fuel : Nat} {listed : Array Bool} (h : lk E j = some (.bool b)) (ht : b = true → GA P n ops Q S fuel listed ((j, .bool true) :: E) w) (hf : b = false → GA P n ops Q S fuel listed ((j, .bool false) :: E) w) : GA P n ops Q S fuel listed E w := fun a ha => by
  cases hb : b with
  | true => exact ht hb a (ha.know h hb)
  | false => exact hf hb a (ha.know h hb)
theorem C_true {c : Operand} {x y : Code} (hc : ev E c = some (.bool true)) (k : C P n x Q E w) : C P n (.cond c x y) Q E w := C_cond hc (fun _ => k) (fun h => by cases h)
theorem C_false {c : Operand} {x y : Code} (hc : ev E c = some (.bool false)) (k : C P n y Q E w) : C P n (.cond c x y) Q E w := C_cond hc (fun h => by cases h) (fun _ => k)
theorem C_if {c : Operand} {x y : Code} {p : Prop} [hd : Decidable p] (hc : ev E c = some (.bool (decide p))) (ht : p → C P n x Q E w) (hf : ¬ p → C P n y Q E w) : C P n (.cond c x y) Q E w :=
  C_cond hc (fun h => ht (of_decide_eq_true h)) (fun h => hf (of_decide_eq_false h))

/-- In a region that draws: the address of an element. -/
theorem A_idx (k : Nat) {α : Type} {K : Kd α} {F : Nat → Prop} {w0 : World} {v : Value} {xs : List α} {i : Int} {x0 : α} {e : TypeId} {zv : Value} {by_ : Nat} {fuel : Nat} {listed : Array Bool}
    (hi : ops[k]? = some ⟨some d, .indexAddr t x y, ty, pos, af, none⟩) (hs : K.Sl F w0 v xs) (hx : ev E x = some v) (hy : ev E y = some (iv i)) (h0 : 0 ≤ i) (hg : xs[i.toNat]? = some x0) (hu : P.underlying t = some (.slice e)) (hin : Inf P e zv K.sz by_)
    (hS : S w) (hnp : ∀ c E w, Q (.panic c) E w → False)
    (h : ∀ ad cs, F ad.block → K.R F w0 cs x0 → CellsAt w0 ad cs → GA P n ops Q S fuel (listed.setIfInBounds k true) ((d, .pointer (some ad)) :: E) w) (hlt : d < n := by decide)
    (hs' : Region.noSelect ops = true := by kernel_rfl) (hf : Region.free .any ops listed k = true := by kernel_rfl) (hr : (Region.ready .any ops listed).contains k = true := by kernel_rfl) :
    GA P n ops Q S (fuel + 1) listed E w := by
  obtain ⟨ad, cs, h1, h2, h3, h4⟩ := y_idx (P := P) (n := n) (E := E) (S := S) (d := d) (ty := ty) (pos := pos) (af := af) (gd := none) hs hx hy h0 hg hu hin
  exact A_take k hi h4 hS hnp (h ad cs h1 h2 h3) rfl rfl hlt hs' hf hr
theorem A_reslice (k : Nat) {α : Type} {K : Kd α} {F : Nat → Prop} {w0 : World} {e : TypeId} {v : Value} {xs : List α} {lo up : Option Operand} {l h : Int} {zv : Value} {by_ : Nat} {fuel : Nat} {listed : Array Bool}
    (hi : ops[k]? = some ⟨some d, .slice t x lo up none, ty, pos, af, none⟩) (hs : K.Sl F w0 v xs) (hx : ev E x = some v) (hlo : Bd E lo 0 l) (hup : Bd E up xs.length h) (h0 : 0 ≤ l) (h1 : l ≤ h) (h2 : h ≤ xs.length) (hu : P.underlying t = some (.slice e)) (hin : Inf P e zv K.sz by_)
    (hS : S w) (hnp : ∀ c E w, Q (.panic c) E w → False)
    (hh : ∀ v', K.Sl F w0 v' ((xs.take h.toNat).drop l.toNat) → GA P n ops Q S fuel (listed.setIfInBounds k true) ((d, v') :: E) w) (hlt : d < n := by decide)
    (hs' : Region.noSelect ops = true := by kernel_rfl) (hf : Region.free .any ops listed k = true := by kernel_rfl) (hr : (Region.ready .any ops listed).contains k = true := by kernel_rfl) :
    GA P n ops Q S (fuel + 1) listed E w := by
  obtain ⟨v', h3, h4⟩ := y_reslice (P := P) (n := n) (E := E) (S := S) (d := d) (ty := ty) (pos := pos) (af := af) (gd := none) hs hx hlo hup h0 h1 h2 hu hin
  exact A_take k hi h4 hS hnp (hh v' h3) rfl rfl hlt hs' hf hr
end

/-! ## Conversions of numbers -/
section
variable {P : Program} {s d : TypeId} {k' : IntKind}
theorem cv_run {j k : IntKind} {a b : Int} (hs : P.underlying s = some (.int j)) (hd : P.underlying d = some (.int k)) (e : k.wrap a = b) : ∀ w, (convert s d (.int j a)).run P w = .ok (.int k b) w := by
  intro w
  simp only [convert, Sem.run_bind, run_underlying hs, run_underlying hd, Result.andThen_ok, Conv.intToInt, e, Sem.run_pure]
variable (x : UInt64) (y : UInt32) (z : UInt8)
theorem cv_u64_u8 (hs : P.underlying s = some (.int .u64)) (hd : P.underlying d = some (.int .u8)) : ∀ w, (convert s d (u64v x)).run P w = .ok (u8v x.toUInt8) w := cv_run hs hd (by rw [IntKind.wrap_u8]; simp)
theorem cv_u64_u32 (hs : P.underlying s = some (.int .u64)) (hd : P.underlying d = some (.int .u32)) : ∀ w, (convert s d (u64v x)).run P w = .ok (u32v x.toUInt32) w := cv_run hs hd (by rw [IntKind.wrap_u32]; simp)
theorem cv_u64_u64 (hs : P.underlying s = some (.int .u64)) (hd : P.underlying d = some (.int .u64)) : ∀ w, (convert s d (u64v x)).run P w = .ok (u64v x) w := cv_run hs hd (by rw [IntKind.wrap_u64]; have := x.toNat_lt; omega)
theorem cv_u32_u8 (hs : P.underlying s = some (.int .u32)) (hd : P.underlying d = some (.int .u8)) : ∀ w, (convert s d (u32v y)).run P w = .ok (u8v y.toUInt8) w := cv_run hs hd (by rw [IntKind.wrap_u8]; simp)
theorem cv_u32_u64 (hs : P.underlying s = some (.int .u32)) (hd : P.underlying d = some (.int .u64)) : ∀ w, (convert s d (u32v y)).run P w = .ok (u64v y.toUInt64) w := cv_run hs hd (by rw [IntKind.wrap_u64]; have := y.toNat_lt; simp; omega)
theorem cv_u8_u64 (hs : P.underlying s = some (.int .u8)) (hd : P.underlying d = some (.int .u64)) : ∀ w, (convert s d (u8v z)).run P w = .ok (u64v z.toUInt64) w := cv_run hs hd (by rw [IntKind.wrap_u64]; have := z.toNat_lt; simp; omega)
theorem cv_u8_u32 (hs : P.underlying s = some (.int .u8)) (hd : P.underlying d = some (.int .u32)) : ∀ w, (convert s d (u8v z)).run P w = .ok (u32v z.toUInt32) w := cv_run hs hd (by rw [IntKind.wrap_u32]; have := z.toNat_lt; simp; omega)
theorem cv_u8_i64 (hs : P.underlying s = some (.int .u8)) (hd : P.underlying d = some (.int .i64)) : ∀ w, (convert s d (u8v z)).run P w = .ok (iv z.toNat) w := cv_run hs hd (by rw [IntKind.wrap_i64]; have := z.toNat_lt; omega)
theorem cv_u32_i64 (hs : P.underlying s = some (.int .u32)) (hd : P.underlying d = some (.int .i64)) : ∀ w, (convert s d (u32v y)).run P w = .ok (iv y.toNat) w := cv_run hs hd (by rw [IntKind.wrap_i64]; have := y.toNat_lt; omega)
theorem cv_u64_i64 {x : UInt64} (hx : x.toNat ≤ 9223372036854775807) (hs : P.underlying s = some (.int .u64)) (hd : P.underlying d = some (.int .i64)) : ∀ w, (convert s d (u64v x)).run P w = .ok (iv x.toNat) w := cv_run hs hd (by rw [IntKind.wrap_i64]; omega)
theorem cv_i64_u64 {i : Int} {m : Nat} (hi : i = m) (hs : P.underlying s = some (.int .i64)) (hd : P.underlying d = some (.int .u64)) : ∀ w, (convert s d (iv i)).run P w = .ok (u64v (UInt64.ofNat m)) w := cv_run hs hd (by rw [IntKind.wrap_u64, hi]; simp)
theorem cv_i64_u64' {i : Int} (hs : P.underlying s = some (.int .i64)) (hd : P.underlying d = some (.int .u64)) : ∀ w, (convert s d (iv i)).run P w = .ok (u64v (UInt64.ofInt i)) w := cv_run hs hd (by
  rw [IntKind.wrap_u64]
  unfold UInt64.ofInt
  have h0 : (0 : Int) ≤ i % 18446744073709551616 := Int.emod_nonneg _ (by decide)
  have h1 : i % 18446744073709551616 < 18446744073709551616 := Int.emod_lt_of_pos _ (by decide)
  simp [UInt64.toNat_ofNat']
  omega)
theorem cv_i64_u32 {i : Int} {m : Nat} (hi : i = m) (hs : P.underlying s = some (.int .i64)) (hd : P.underlying d = some (.int .u32)) : ∀ w, (convert s d (iv i)).run P w = .ok (u32v (UInt32.ofNat m)) w := cv_run hs hd (by rw [IntKind.wrap_u32, hi]; simp)
theorem cv_i64_u8 {i : Int} {m : Nat} (hi : i = m) (hs : P.underlying s = some (.int .i64)) (hd : P.underlying d = some (.int .u8)) : ∀ w, (convert s d (iv i)).run P w = .ok (u8v (UInt8.ofNat m)) w := cv_run hs hd (by rw [IntKind.wrap_u8, hi]; simp)
theorem cv_i64_i64 {i : Int} (h : -9223372036854775808 ≤ i ∧ i ≤ 9223372036854775807) (hs : P.underlying s = some (.int .i64)) (hd : P.underlying d = some (.int .i64)) : ∀ w, (convert s d (iv i)).run P w = .ok (iv i) w := cv_run hs hd (IntWalk.i64_in _ h)
variable {w : World}
theorem un_not {b : Bool} : ∀ w, (Op.unary .not (.bool b)).run P w = .ok (.bool (!b)) w := fun w => by simp [Op.unary]
end

theorem flat_of {α : Type} {f : α → Value} {hf : ∀ x, (f x).oneCell' = true} : (Kd.flat f hf).Flat := fun h => h
theorem flat_u8 : Kd.u8.Flat := flat_of
theorem flat_u32 : Kd.u32.Flat := flat_of
theorem flat_u64 : Kd.u64.Flat := flat_of
theorem flat_bool : Kd.bool.Flat := flat_of
theorem flat_int : Kd.int.Flat := fun h => h
end Go.Proofs.YtdaphjnenookiaaDoor
