/- A layer of lemmas: one operation of the model, one step of a walk; it says nothing of a program. -/
import Derived.WalkKit
namespace Go.Proofs.YtdaphjnenookiaaDoor
open Go

set_option linter.unusedVariables false

theorem beq_false {a b : Nat} (h : ¬ a = b) : Nat.beq a b = false := by
  cases hb : Nat.beq a b with
  | false => rfl
  | true => exact absurd (Nat.eq_of_beq_eq_true hb) h

/-! ## Environments: what is known of a frame's slots -/

abbrev Env := List (Nat × Value)

def lk : Env → Nat → Option Value
  | [], _ => none
  | (k, v) :: r, t => bif Nat.beq k t then some v else lk r t

def ev (E : Env) : Operand → Option Value
  | .tmp t => lk E t
  | .const v => some v
  | .global g => some (.pointer (some ⟨g, 0, none⟩))
  | .func f => some (.func (.func f) #[] #[])

def evs (E : Env) : List Operand → Option (List Value)
  | [] => some []
  | x :: xs => match ev E x, evs E xs with
    | some v, some vs => some (v :: vs)
    | _, _ => none

def Holds (n : Nat) (a : Act) (E : Env) : Prop := a.tmps.size = n ∧ a.defers = [] ∧ ∀ t v, lk E t = some v → a.tmps.getD t undef = v

def lift (n : Nat) (Q : Exit → Env → World → Prop) : Exit → Act → World → Prop := fun e a w => ∃ E, Holds n a E ∧ Q e E w

def G (P : Program) (n : Nat) (ops : Array Oper) (Q : Exit → Env → World → Prop) (rest : List Oper) (E : Env) (w : World) : Prop :=
  ∀ a, Holds n a E → wpList P ops (lift n Q) rest a w

def C (P : Program) (n : Nat) (c : Code) (Q : Exit → Env → World → Prop) (E : Env) (w : World) : Prop :=
  ∀ a, Holds n a E → c.wp P (lift n Q) a w

section
variable {P : Program} {n : Nat} {a : Act} {E : Env} {w : World} {Q : Exit → Env → World → Prop} {ops : Array Oper} {rest : List Oper}

theorem Holds.eval (h : Holds n a E) {x : Operand} {v : Value} (hx : ev E x = some v) : a.eval x = v := by
  cases x with
  | tmp t => exact h.2.2 t v hx
  | const c => simpa [ev, Act.eval] using hx
  | global g => simpa [ev, Act.eval] using hx
  | func f => simpa [ev, Act.eval] using hx

theorem Holds.evals (h : Holds n a E) : ∀ {l : List Operand} {vs : List Value}, evs E l = some vs → l.map a.eval = vs
  | [], vs, e => by simp [evs] at e; simp [e]
  | x :: xs, vs, e => by
    simp only [evs] at e
    split at e
    · rename_i v vs' h1 h2
      cases e
      rw [List.map_cons, h.eval h1, Holds.evals h h2]
    · cases e

theorem Holds.put (h : Holds n a E) {d : Nat} {v : Value} (hd : d < n) : Holds n (a.put (some d) v) ((d, v) :: E) := by
  refine ⟨by simp [Act.put, h.1], by simp [Act.put, h.2.1], fun t u hu => ?_⟩
  simp only [lk] at hu
  by_cases hk : d = t
  · subst hk
    simp only [Nat.beq_refl, cond_true, Option.some.injEq] at hu
    subst hu
    simp [Act.put, h.1, hd]
  · have hb : Nat.beq d t = false := beq_false hk
    rw [hb] at hu
    have := h.2.2 t u hu
    simp only [Act.put, Array.getD_eq_getD_getElem?] at this ⊢
    rw [Array.getElem?_setIfInBounds, if_neg hk]
    exact this

/-- What is known may be told anew, in fewer words. -/
def Sub (E' E : Env) : Prop := ∀ p, p ∈ E' → lk E p.1 = some p.2

theorem lk_mem : ∀ {E : Env} {t : Nat} {v : Value}, lk E t = some v → (t, v) ∈ E
  | [], _, _, h => by simp [lk] at h
  | (k, u) :: r, t, v, h => by
    simp only [lk] at h
    by_cases hk : k = t
    · subst hk
      simp at h
      subst h
      exact List.mem_cons_self
    · have hb : Nat.beq k t = false := beq_false hk
      rw [hb] at h
      exact List.mem_cons_of_mem _ (lk_mem h)

theorem Holds.sub {E' : Env} (h : Holds n a E) (hs : Sub E' E) : Holds n a E' :=
  ⟨h.1, h.2.1, fun t v hv => h.2.2 t v (hs (t, v) (lk_mem hv))⟩

theorem Sub.nil : Sub [] E := fun _ h => by cases h
theorem Sub.cons {t : Nat} {v : Value} {E' : Env} (h : lk E t = some v) (hs : Sub E' E) : Sub ((t, v) :: E') E := by
  intro p hp
  rcases List.mem_cons.1 hp with rfl | hp
  · exact h
  · exact hs p hp

theorem G_sub {E' : Env} (hs : Sub E' E) (k : G P n ops Q rest E' w) : G P n ops Q rest E w := fun a h => k a (h.sub hs)
theorem C_sub {c : Code} {E' : Env} (hs : Sub E' E) (k : C P n c Q E' w) : C P n c Q E w := fun a h => k a (h.sub hs)

/-! ## Code -/

def thenQ (next : Env → World → Prop) (Q : Exit → Env → World → Prop) : Exit → Env → World → Prop
  | .normal, E, w => next E w
  | e, E, w => Q e E w

def inBlockQ (id : Nat) (Q : Exit → Env → World → Prop) : Exit → Env → World → Prop
  | .exit id', E, w => bif Nat.beq id' id then Q .normal E w else Q (.exit id') E w
  | e, E, w => Q e E w

theorem C_skip (h : Q .normal E w) : C P n .skip Q E w := fun a ha => wp_skip ⟨E, ha, h⟩
theorem C_ret (h : Q .ret E w) : C P n .ret Q E w := fun a ha => wp_ret ⟨E, ha, h⟩
theorem C_exit {id : Nat} (h : Q (.exit id) E w) : C P n (.exit id) Q E w := fun a ha => wp_exit ⟨E, ha, h⟩
theorem C_seq {x y : Code} (h : C P n x (thenQ (fun E w => C P n y Q E w) Q) E w) : C P n (.seq x y) Q E w := fun a ha =>
  wp_seq (Code.wp_mono (fun e a w q => by
    obtain ⟨E', h1, h2⟩ := q
    cases e <;> first | exact h2 a h1 | exact ⟨E', h1, h2⟩) (h a ha))
theorem C_block {id : Nat} {c : Code} (h : C P n c (inBlockQ id Q) E w) : C P n (.block id c) Q E w := fun a ha =>
  wp_block (Code.wp_mono (fun e a w q => by
    obtain ⟨E', h1, h2⟩ := q
    cases e with
    | exit id' =>
      simp only [Exit.inBlock]
      simp only [inBlockQ] at h2
      by_cases hid : id' = id
      · subst hid
        simp at h2
        rw [if_pos rfl]
        exact ⟨E', h1, h2⟩
      · have hb : Nat.beq id' id = false := beq_false hid
        rw [hb] at h2
        rw [if_neg hid]
        exact ⟨E', h1, h2⟩
    | _ => exact ⟨E', h1, h2⟩) (h a ha))
theorem C_cond {c : Operand} {x y : Code} {t : Bool} (hc : ev E c = some (.bool t)) (ht : t = true → C P n x Q E w) (hf : t = false → C P n y Q E w) :
    C P n (.cond c x y) Q E w := fun a ha => wp_cond_split (ha.eval hc) (fun h => ht h a ha) (fun h => hf h a ha)
theorem C_mono {c : Code} {Q' : Exit → Env → World → Prop} (h : C P n c Q' E w) (hq : ∀ e E w, Q' e E w → Q e E w) : C P n c Q E w := fun a ha =>
  Code.wp_mono (fun e a w ⟨E', h1, h2⟩ => ⟨E', h1, hq _ _ _ h2⟩) (h a ha)

theorem least_of {p : Nat → Prop} : (∃ m, p m) → ∃ m, p m ∧ ∀ k, p k → m ≤ k := by
  intro ⟨m, hm⟩
  induction m using Nat.strongRecOn with
  | _ m ih =>
    by_cases h : ∃ k, k < m ∧ p k
    · obtain ⟨k, hk, hp⟩ := h
      exact ih k hk hp
    · exact ⟨m, hm, fun k hk => Nat.le_of_not_lt fun hlt => h ⟨k, hlt, hk⟩⟩

open Classical in
noncomputable def least (p : Nat → Prop) : Nat := if h : ∃ m, p m then (least_of h).choose else 0
theorem least_spec {p : Nat → Prop} (h : ∃ m, p m) : p (least p) := by
  unfold least; rw [dif_pos h]; exact (least_of h).choose_spec.1
theorem least_le {p : Nat → Prop} {k : Nat} (h : p k) : least p ≤ k := by
  unfold least; rw [dif_pos ⟨k, h⟩]; exact (least_of ⟨k, h⟩).choose_spec.2 k h

/-- A loop: its state is a ghost x; the slots that matter are st x. -/
theorem C_loop {α : Type} {c : Code} (st : α → Env) (J : α → World → Prop) (μ : α → Nat) (x0 : α) (hs : Sub (st x0) E) (hJ : J x0 w)
    (round : ∀ x w, J x w → C P n c (thenQ (fun E' w' => ∃ y, Sub (st y) E' ∧ J y w' ∧ μ y < μ x) Q) (st x) w) : C P n (.loop c) Q E w := by
  intro a ha
  refine wp_loop (fun a w => ∃ x, Holds n a (st x) ∧ J x w) (fun a w => least fun m => ∃ x, Holds n a (st x) ∧ J x w ∧ μ x = m) ⟨x0, ha.sub hs, hJ⟩ ?_
  intro a w hI
  have hI' : ∃ m, ∃ x, Holds n a (st x) ∧ J x w ∧ μ x = m := by
    obtain ⟨x, h1, h2⟩ := hI
    exact ⟨_, x, h1, h2, rfl⟩
  obtain ⟨x, h1, h2, h3⟩ := least_spec hI'
  refine Code.wp_mono (fun e a' w' q => ?_) (round x w h2 a h1)
  obtain ⟨E', g1, g2⟩ := q
  cases e with
  | normal =>
    obtain ⟨y, hy, hJy, hlt⟩ := g2
    refine ⟨⟨y, g1.sub hy, hJy⟩, ?_⟩
    rw [← h3]
    exact Nat.lt_of_le_of_lt (least_le ⟨y, g1.sub hy, hJy, rfl⟩) hlt
  | _ => exact ⟨E', g1, g2⟩

/-! ## Functions -/

/-- A function's results: slots, or variables that lie in memory. -/
inductive ResV (P : Program) (E : Env) (w : World) : List ResultVar → List Value → Prop
  | nil : ResV P E w [] []
  | tmp {t : Tmp} {v : Value} {rs : List ResultVar} {vs : List Value} : lk E t = some v → ResV P E w rs vs → ResV P E w (.tmp t :: rs) (v :: vs)
  | cell {t : Tmp} {ty : TypeId} {ad : Addr} {v : Value} {rs : List ResultVar} {vs : List Value} : lk E t = some (.pointer (some ad)) → (loadVar ty ad).run P w = .ok v w → ResV P E w rs vs → ResV P E w (.cell t ty :: rs) (v :: vs)

def retV : List Value → Value
  | [v] => v
  | vs => .tuple vs.toArray

def retQ (P : Program) (rs : List ResultVar) (R : Ending → World → Prop) : Exit → Env → World → Prop
  | .normal, E, w | .ret, E, w => ∃ vs, ResV P E w rs vs ∧ R (.returned (retV vs)) w
  | _, _, _ => False

def resF (tmps : Array Value) : ResultVar → Sem Value
  | .tmp t => pure (tmps.getD t undef)
  | .cell a t => do loadVar t (← asAddr (tmps.getD a undef))

theorem mapM_results {tmps : Array Value} {P : Program} {w : World} (h : ∀ t v, lk E t = some v → tmps.getD t undef = v) : ∀ {rs : List ResultVar} {vs : List Value}, ResV P E w rs vs →
    (rs.mapM (resF tmps)).run P w = .ok vs w := by
  intro rs vs hr
  induction hr with
  | nil => simp
  | tmp h1 _ ih =>
    rw [List.mapM_cons]
    simp [ih, resF]
    simpa using h _ _ h1
  | cell h1 h2 _ ih =>
    rw [List.mapM_cons]
    have h3 := h _ _ h1
    simp only [Array.getD_eq_getD_getElem?] at h3
    simp [ih, resF, h3, asAddr, h2]

theorem run_results {fn : Func} {rs : List ResultVar} {tmps : Array Value} {vs : List Value} (hr : fn.results = rs.toArray) (h : ∀ t v, lk E t = some v → tmps.getD t undef = v) (e : ResV P E w rs vs) :
    (results fn tmps).run P w = .ok (retV vs) w := by
  have hm := mapM_results (P := P) (w := w) h e
  have hres : results fn tmps = (rs.mapM (resF tmps)) >>= fun vs => pure (if h : vs.toArray.size = 1 then vs.toArray[0] else .tuple vs.toArray) := by
    unfold results
    rw [hr, List.mapM_toArray]
    change (do let vs ← List.toArray <$> List.mapM (resF tmps) rs; pure (if h : vs.size = 1 then vs[0] else .tuple vs)) = _
    simp
  rw [hres]
  simp only [Sem.run_bind, hm, Result.andThen_ok, Sem.run_pure]
  congr 1
  match vs with
  | [] => rfl
  | [v] => rfl
  | _ :: _ :: _ => simp [retV]

theorem range_zip_lk (args : List Value) : ∀ (k t : Nat) (v : Value), lk ((List.range' k args.length).zip args) t = some v → k ≤ t ∧ args[t - k]? = some v := by
  induction args with
  | nil => intro k t v h; simp [lk] at h
  | cons x xs ih =>
    intro k t v h
    simp only [List.length_cons, List.range'_succ, List.zip_cons_cons, lk] at h
    by_cases hk : k = t
    · subst hk
      simp at h
      subst h
      simp
    · rw [beq_false hk] at h
      obtain ⟨h1, h2⟩ := ih (k + 1) t v h
      refine ⟨by omega, ?_⟩
      obtain ⟨d, hd⟩ : ∃ d, t - k = d + 1 := ⟨t - k - 1, by omega⟩
      rw [hd, List.getElem?_cons_succ, ← h2]
      congr 1
      omega

theorem calls {f : FuncId} {fn : Func} {c : Code} {args : List Value} {R : Ending → World → Prop} {rs : List ResultVar} (hf : P.funcs[f]? = some fn) (hb : fn.body = some c) (hr : fn.results = rs.toArray)
    (hn : fn.ntmps = n) (hl' : Nat.ble args.length n = true) (h : C P n c (retQ P rs R) ((List.range args.length).zip args) w) : Calls P f args.toArray w R := by
  have hl := Nat.le_of_ble_eq_true hl'
  refine calls_of_wp hf hb (Code.wp_mono (fun e a w q => ?_) (h _ ⟨by simp [hn]; omega, rfl, fun t v hv => ?_⟩))
  · obtain ⟨E', h1, h2⟩ := q
    cases e with
    | normal =>
      obtain ⟨vs, e1, e2⟩ := h2
      exact ⟨h1.2.1, _, run_results hr h1.2.2 e1, e2⟩
    | ret =>
      obtain ⟨vs, e1, e2⟩ := h2
      exact ⟨h1.2.1, _, run_results hr h1.2.2 e1, e2⟩
    | _ => exact h2.elim
  · rw [List.range_eq_range'] at hv
    obtain ⟨_, h2⟩ := range_zip_lk args 0 t v hv
    simp only [Nat.sub_zero] at h2
    obtain ⟨ht, h3⟩ := List.getElem?_eq_some_iff.1 h2
    simp [Array.getD_eq_getD_getElem?, Array.getElem?_append, ht]
    exact h3
end
end Go.Proofs.YtdaphjnenookiaaDoor
