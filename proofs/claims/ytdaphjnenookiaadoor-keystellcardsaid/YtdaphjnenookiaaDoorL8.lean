/- A layer of lemmas: one operation of the model, one step of a walk; it says nothing of a program. -/
import Derived.Test.YtdaphjnenookiaaDoorL7
import Derived.OrdersHeld
namespace Go.Proofs.YtdaphjnenookiaaDoor
open Go Go.RowKit
set_option linter.unusedVariables false
set_option linter.unusedSimpArgs false

/-- In every world that meets S the operation yields v and leaves that world as it is. -/
def Y (P : Program) (n : Nat) (E : Env) (S : World → Prop) (o : Oper) (v : Value) : Prop := ∀ a w, Holds n a E → S w → (execOp a.eval o).run P w = .ok (.value v) w

def GA (P : Program) (n : Nat) (ops : Array Oper) (Q : Exit → Env → World → Prop) (S : World → Prop) (fuel : Nat) (listed : Array Bool) (E : Env) (w : World) : Prop :=
  ∀ a, Holds n a E → wpAnyH P .any ops (lift n Q) S fuel listed a w

section
variable {P : Program} {n : Nat} {E : Env} {w : World} {Q : Exit → Env → World → Prop} {ops : Array Oper} {rest : List Oper} {o : Oper} {d : Nat} {S : World → Prop}
variable {x y z : Operand} {t t' ty : TypeId} {pos : String} {af : Array Edge} {gd : Option (Nat × Bool)}

theorem Y.at_ {v : Value} (h : Y P n E S o v) (hS : S w) : ∀ a, Holds n a E → (execOp a.eval o).run P w = .ok (.value v) w := fun a ha => h a w ha hS
/-- A step by what yields. -/
theorem s_v {v : Value} (hy : Y P n E (· = w) o v) (k : G P n ops Q rest ((d, v) :: E) w) (hg : o.guard = none := by rfl) (hd : o.dst = some d := by rfl) (hlt : d < n := by decide) : G P n ops Q (o :: rest) E w :=
  G_val hg hd hlt (hy.at_ rfl) k

theorem C_draw {id m : Nat} {l : List Oper} (hm : P.follows .mixedOrders = true) (hl : l.length = m) (h : GA P n l.toArray Q S m (Array.replicate m false) E w.drew) : C P n (.region id l.toArray true) Q E w := by
  intro a ha
  subst hl
  exact wp_region_held (S := S) hm (h a ha)

theorem A_take (i : Nat) {v : Value} {oi : Oper} {fuel : Nat} {listed : Array Bool} (hi : ops[i]? = some oi) (hy : Y P n E S oi v) (hS : S w) (hnp : ∀ c E w, Q (.panic c) E w → False)
    (h : GA P n ops Q S fuel (listed.setIfInBounds i true) ((d, v) :: E) w)
    (hg : oi.guard = none := by rfl) (hd : oi.dst = some d := by rfl) (hlt : d < n := by decide)
    (hs : Region.noSelect ops = true := by kernel_rfl) (hf : Region.free .any ops listed i = true := by kernel_rfl) (hr : (Region.ready .any ops listed).contains i = true := by kernel_rfl) :
    GA P n ops Q S (fuel + 1) listed E w := by
  intro a ha
  refine wpAnyH_take (v := v) hi hs hf hr (fun c a w hq => ?_) (.inl ⟨by simp [Region.wanted, hg], fun w' hw' => hy a w' ha hw'⟩) hS ?_
  · obtain ⟨E', _, h2⟩ := hq
    exact (hnp _ _ _ h2).elim
  · rw [hd]
    exact h _ (ha.put hlt)

/-- A guarded operation that is taken first. -/
theorem A_takeG (i : Nat) {v : Value} {oi : Oper} {fuel : Nat} {listed : Array Bool} {op : Op} {j dj : Nat} {b : Bool} {oj : Oper} (hi : ops[i]? = some oi) (hoi : oi = ⟨some d, op, ty, pos, af, some (j, b)⟩)
    (hj : ops[j]? = some oj) (hdj : oj.dst = some dj) (hv : lk E dj = some (.bool b)) (hy : Y P n E S oi v) (hS : S w) (hnp : ∀ c E w, Q (.panic c) E w → False)
    (h : GA P n ops Q S fuel (listed.setIfInBounds i true) ((d, v) :: E) w) (hlt : d < n := by decide)
    (hs : Region.noSelect ops = true := by kernel_rfl) (hf : Region.free .any ops listed i = true := by kernel_rfl) (hr : (Region.ready .any ops listed).contains i = true := by kernel_rfl) :
    GA P n ops Q S (fuel + 1) listed E w := by
  intro a ha
  refine wpAnyH_take (v := v) hi hs hf hr (fun c a w hq => ?_) (.inl ⟨?_, fun w' hw' => hy a w' ha hw'⟩) hS ?_
  · obtain ⟨E', _, h2⟩ := hq
    exact (hnp _ _ _ h2).elim
  · subst hoi
    simp only [Region.wanted, yielded_of ha hj hdj hv]
    cases b <;> rfl
  · rw [hoi]
    exact h _ (ha.put hlt)
/-- A guarded operation that is passed over. -/
theorem A_not (i : Nat) {oi : Oper} {fuel : Nat} {listed : Array Bool} {op : Op} {j dj : Nat} {b : Bool} {oj : Oper} (hi : ops[i]? = some oi) (hoi : oi = ⟨some d, op, ty, pos, af, some (j, b)⟩)
    (hj : ops[j]? = some oj) (hdj : oj.dst = some dj) (hv : lk E dj = some (.bool (!b))) (hS : S w) (hnp : ∀ c E w, Q (.panic c) E w → False)
    (h : GA P n ops Q S fuel (listed.setIfInBounds i true) ((d, undef) :: E) w) (hlt : d < n := by decide)
    (hs : Region.noSelect ops = true := by kernel_rfl) (hf : Region.free .any ops listed i = true := by kernel_rfl) (hr : (Region.ready .any ops listed).contains i = true := by kernel_rfl) :
    GA P n ops Q S (fuel + 1) listed E w := by
  intro a ha
  refine wpAnyH_take (v := undef) hi hs hf hr (fun c a w hq => ?_) (.inr ⟨?_, rfl⟩) hS ?_
  · obtain ⟨E', _, h2⟩ := hq
    exact (hnp _ _ _ h2).elim
  · subst hoi
    simp only [Region.wanted, yielded_of ha hj hdj hv]
    cases b <;> rfl
  · rw [hoi]
    exact h _ (ha.put hlt)

theorem upon_mono {R R' : Exit → Act → World → Prop} {K K' : Act → World → Prop} {a : Act} {r : Result Next} (hK : ∀ a w, K a w → K' a w) (hp : ∀ c a w, R (.panic c) a w → R' (.panic c) a w) (hl : LetsOut R → LetsOut R')
    (h : o.upon P a K R r) : o.upon P a K' R' r := by
  cases r with
  | ok x w' =>
    cases x <;> simp only [Oper.upon] at h ⊢ <;>
      first
        | exact hK _ _ h
        | exact Calls.mono h (fun e w'' he => by cases e <;> first | exact hK _ _ he | exact hp _ _ _ he | exact hl he)
        | exact Rows.mono h (fun _ _ he => hK _ _ he)
  | halt x w' => cases x <;> simp only [Oper.upon] at h ⊢ <;> exact hp _ _ _ h

theorem lets_then {next : Env → World → Prop} (h : LetsOut (lift n (thenQ next Q))) : LetsOut (lift n Q) := by
  obtain ⟨a, w, E, h1, h2⟩ := h
  exact ⟨a, w, E, h1, h2⟩

/-- One of those that may come up now. -/
theorem A_op (i : Nat) {oi : Oper} {fuel : Nat} {listed : Array Bool} (hi : ops[i]? = some oi)
    (h : G P n ops (thenQ (fun E w => S w ∧ GA P n ops Q S fuel (listed.setIfInBounds i true) E w) Q) [oi] E w) {a : Act} (ha : Holds n a E) :
    wpOp P ops (lift n Q) i (fun a' w' => S w' ∧ wpAnyH P .any ops (lift n Q) S fuel (listed.setIfInBounds i true) a' w') a w := by
  have h0 := h a ha
  have hK : ∀ a' w', wpList P ops (lift n (thenQ (fun E w => S w ∧ GA P n ops Q S fuel (listed.setIfInBounds i true) E w) Q)) [] a' w' → S w' ∧ wpAnyH P .any ops (lift n Q) S fuel (listed.setIfInBounds i true) a' w' := by
    intro a' w' hn
    obtain ⟨E', g1, g2, g3⟩ := hn
    exact ⟨g2, g3 a' g1⟩
  unfold wpOp
  simp only [hi]
  unfold wpList at h0
  split at h0
  · rename_i hw
    rw [if_pos hw]
    rcases h0 with h0 | ⟨h0, h1⟩
    · exact .inl (upon_mono hK (fun c a w hq => hq) (fun hl => by obtain ⟨a, w, E, h1, h2⟩ := hl; exact ⟨a, w, E, h1, h2⟩) h0)
    · exact .inr ⟨h0, by obtain ⟨a, w, E, h1, h2⟩ := h1; exact ⟨a, w, E, h1, h2⟩⟩
  · rename_i hw
    rw [if_neg hw]
    exact hK _ _ h0

/-- The only one that may come up now. -/
theorem A_act (i : Nat) {oi : Oper} {fuel : Nat} {listed : Array Bool} (hi : ops[i]? = some oi)
    (h : G P n ops (thenQ (fun E w => S w ∧ GA P n ops Q S fuel (listed.setIfInBounds i true) E w) Q) [oi] E w)
    (hr : Region.ready .any ops listed = [i] := by kernel_rfl) : GA P n ops Q S (fuel + 1) listed E w := fun a ha =>
  wpAnyH_all hr (by simp) (fun j hj => by
    simp only [List.mem_singleton] at hj
    subst hj
    exact A_op j hi h ha)

/-- Two may come up. -/
theorem A_act2 (i j : Nat) {oi oj : Oper} {fuel : Nat} {listed : Array Bool} (hi : ops[i]? = some oi) (hj : ops[j]? = some oj)
    (h : G P n ops (thenQ (fun E w => S w ∧ GA P n ops Q S fuel (listed.setIfInBounds i true) E w) Q) [oi] E w)
    (h' : G P n ops (thenQ (fun E w => S w ∧ GA P n ops Q S fuel (listed.setIfInBounds j true) E w) Q) [oj] E w)
    (hr : Region.ready .any ops listed = [i, j] := by kernel_rfl) : GA P n ops Q S (fuel + 1) listed E w := fun a ha =>
  wpAnyH_all hr (by simp) (fun k hk => by
    simp only [List.mem_cons, List.not_mem_nil, or_false] at hk
    rcases hk with rfl | rfl
    · exact A_op _ hi h ha
    · exact A_op _ hj h' ha)

theorem A_done {fuel : Nat} {listed : Array Bool} (h : Q .normal E w) (hr : Region.ready .any ops listed = [] := by kernel_rfl) : GA P n ops Q S fuel listed E w := fun a ha => wpAnyH_done hr ⟨E, ha, h⟩ fuel

/-! ## What yields -/

theorem y_move {v : Value} (hx : ev E x = some v) : Y P n E S ⟨some d, .move x, ty, pos, af, gd⟩ v := fun a w ha _ => by simp [execOp, ha.eval hx]
theorem y_assign {v : Value} (hx : ev E x = some v) : Y P n E S ⟨some d, .assign x, ty, pos, af, gd⟩ v := fun a w ha _ => by simp [execOp, ha.eval hx]
theorem y_pick {c : Operand} {b : Bool} {v : Value} (hc : ev E c = some (.bool b)) (hx : ev E (bif b then x else y) = some v) : Y P n E S ⟨some d, .pick c x y, ty, pos, af, gd⟩ v := fun a w ha _ => by
  have h1 := ha.eval hc
  have h2 := ha.eval hx
  cases b
  · simp only [cond_false] at h2; simp [execOp, h1, asBool, h2]
  · simp only [cond_true] at h2; simp [execOp, h1, asBool, h2]
theorem y_bin {op : BinOp} {p q v : Value} (hx : ev E x = some p) (hy : ev E y = some q) (hv : ∀ w, (binOp op t p q).run P w = .ok v w) (hp : plainV p = true := by rfl) : Y P n E S ⟨some d, .binOp op t x y t', ty, pos, af, gd⟩ v := fun a w ha _ => by
  simp [execOp, ha.eval hx, ha.eval hy, run_eqGuard hp, hv w]
theorem y_un {op : UnOp} {p v : Value} (hx : ev E x = some p) (hv : ∀ w, (Op.unary op p).run P w = .ok v w) : Y P n E S ⟨some d, .unOp op t x, ty, pos, af, gd⟩ v := fun a w ha _ => by simp [execOp, ha.eval hx, hv w]
theorem y_conv {p v : Value} (hx : ev E x = some p) (hv : ∀ w, (convert t t' p).run P w = .ok v w) : Y P n E S ⟨some d, .convert t t' x, ty, pos, af, gd⟩ v := fun a w ha _ => by simp [execOp, ha.eval hx, hv w]
theorem y_extract {vs : List Value} {i : Nat} {v : Value} (hx : ev E x = some (.tuple vs.toArray)) (hi : vs[i]? = some v) : Y P n E S ⟨some d, .extract x i, ty, pos, af, gd⟩ v := fun a w ha _ => by
  simp [execOp, ha.eval hx, Instr.extract, hi]
theorem y_len {α : Type} {K : Kd α} {F : Nat → Prop} {w0 : World} {v : Value} {xs : List α} {sl e : TypeId} (hx : ev E x = some v) (hs : K.Sl F w0 v xs) (hu : P.underlying sl = some (.slice e)) :
    Y P n E S ⟨some d, .call ⟨.builtin .len, #[x], #[sl]⟩, ty, pos, af, gd⟩ (iv xs.length) := fun a w ha _ => by
  obtain ⟨A, c, cs, e, _⟩ := hs
  simp [execOp, resolve, invoke, builtin, Builtin.len_, ha.eval hx, run_underlying hu, e, goInt]
theorem y_len_own {α : Type} {K : Kd α} {F : Nat → Prop} {B : Nat} {T : TypeId} {w0 : World} {v : Value} {xs : List α} {sl e : TypeId} (hx : ev E x = some v) (hs : K.Own F B T w0 v xs) (hu : P.underlying sl = some (.slice e)) :
    Y P n E S ⟨some d, .call ⟨.builtin .len, #[x], #[sl]⟩, ty, pos, af, gd⟩ (iv xs.length) := fun a w ha _ => by
  obtain ⟨cs, ⟨_, h⟩, _⟩ := hs
  rcases h with ⟨e, h⟩ | ⟨g, cap, cur, e, _⟩
  · simp [execOp, resolve, invoke, builtin, Builtin.len_, ha.eval hx, run_underlying hu, e, goInt, h]
  · simp [execOp, resolve, invoke, builtin, Builtin.len_, ha.eval hx, run_underlying hu, e, goInt]
theorem y_len_str {s : ByteArray} {sl : TypeId} (hx : ev E x = some (.string s)) (hu : P.underlying sl = some .string) : Y P n E S ⟨some d, .call ⟨.builtin .len, #[x], #[sl]⟩, ty, pos, af, gd⟩ (iv s.size) := fun a w ha _ => by
  simp [execOp, resolve, invoke, builtin, Builtin.len_, ha.eval hx, run_underlying hu, goInt]
theorem y_load {T : TypeId} {de : TypeDesc} {ad : Addr} {u : Value} {us : List Value} (hx : ev E x = some (.pointer (some ad))) (hc : ∀ w, S w → CellsAt w ad (u :: us)) (hu : P.underlying T = some de)
    (h1 : oneD de = true := by rfl) : Y P n E S ⟨some d, .load T x, ty, pos, af, gd⟩ u := fun a w ha hS => by
  have h2 := hc w hS 0 u rfl
  rw [add_zero'] at h2
  have h3 := isAgg_of hu w
  rw [h1] at h3
  simp [execOp, ha.eval hx, Instr.loadAt, Instr.sureAddr, loadVar, h3, load, Sem.run, h2]
theorem y_loadA {T : TypeId} {de : TypeDesc} {ad : Addr} {cs : List Value} {zv : Value} {m by_ : Nat} (hx : ev E x = some (.pointer (some ad))) (hc : ∀ w, S w → CellsAt w ad cs) (hu : P.underlying T = some de)
    (hi : Inf P T zv m by_) (hm : cs.length = m) (h1 : oneD de = false := by rfl) : Y P n E S ⟨some d, .load T x, ty, pos, af, gd⟩ (.agg cs.toArray) := fun a w ha hS => by
  subst hm
  have h3 := isAgg_of hu w
  rw [h1] at h3
  have h4 := run_loadCells_list (P := P) w ad cs (hc w hS)
  simp [execOp, ha.eval hx, Instr.loadAt, Instr.sureAddr, loadVar, h3, hi.size, h4]
theorem y_fieldB {fs : Array Field} {fd : Field} {i g off : Nat} {zv : Value} {m by_ : Nat} (hx : ev E x = some (.pointer (some ⟨g, off, none⟩))) (hs : P.underlying t = some (.struct fs)) (hf : fs[i]? = some fd) (hi : Inf P fd.type zv (m + 1) by_) :
    Y P n E S ⟨some d, .fieldAddr t x i, ty, pos, af, gd⟩ (.pointer (some ⟨g, off + fd.offset, none⟩)) := fun a w ha _ => by
  simp [execOp, ha.eval hx, Instr.fieldAt, run_underlying hs, hf, Instr.sureAddr, fieldPlace, hi.size, add_none]
theorem y_fieldA {fs : Array Field} {fd : Field} {i : Nat} {ad : Addr} {zv : Value} {m by_ : Nat} (hx : ev E x = some (.pointer (some ad))) (hs : P.underlying t = some (.struct fs)) (hf : fs[i]? = some fd) (hi : Inf P fd.type zv (m + 1) by_) :
    Y P n E S ⟨some d, .fieldAddr t x i, ty, pos, af, gd⟩ (.pointer (some (ad.add fd.offset))) := fun a w ha _ => by
  simp [execOp, ha.eval hx, Instr.fieldAt, run_underlying hs, hf, Instr.sureAddr, fieldPlace, hi.size]
theorem y_idxB {g off : Nat} {i : Int} {e : TypeId} {m sz by_ : Nat} {zv : Value} (hx : ev E x = some (.pointer (some ⟨g, off, none⟩))) (hy : ev E y = some (iv i)) (h0 : 0 ≤ i) (h1 : i < m)
    (hu : P.underlying t = some (.array m e)) (hi : Inf P e zv sz by_) : Y P n E S ⟨some d, .indexAddr t x y, ty, pos, af, gd⟩ (.pointer (some ⟨g, off + i.toNat * sz, none⟩)) := fun a w ha _ => by
  have hb : 0 ≤ i ∧ i < (m : Int) := ⟨h0, h1⟩
  simp [execOp, ha.eval hx, ha.eval hy, Instr.indexAt, asIntOf, run_underlying hu, Instr.sureAddr, hb, hi.size, add_none]
theorem y_index {cs : List Value} {i : Int} {e : TypeId} {m by_ : Nat} {zv u : Value} {de : TypeDesc} (hx : ev E x = some (.agg cs.toArray)) (hy : ev E y = some (iv i)) (h0 : 0 ≤ i) (h1 : i < m) (hg : cs[i.toNat]? = some u)
    (hu : P.underlying t = some (.array m e)) (he : P.underlying e = some de) (hi : Inf P e zv 1 by_) (hde : oneD de = true := by rfl) : Y P n E S ⟨some d, .index t x y, ty, pos, af, gd⟩ u := fun a w ha _ => by
  have hb : 0 ≤ i ∧ i < (m : Int) := ⟨h0, h1⟩
  have h3 := isAgg_of he w
  rw [hde] at h3
  simp [execOp, ha.eval hx, ha.eval hy, Instr.index, asIntOf, run_underlying hu, hb, hi.size, part, h3, hg]
theorem y_indexS {s : ByteArray} {i : Int} {b : UInt8} (hx : ev E x = some (.string s)) (hy : ev E y = some (iv i)) (h0 : 0 ≤ i) (hg : s[i.toNat]? = some b)
    (hu : P.underlying t = some .string) : Y P n E S ⟨some d, .index t x y, ty, pos, af, gd⟩ (u8v b) := fun a w ha _ => by
  simp [execOp, ha.eval hx, ha.eval hy, Instr.index, asIntOf, run_underlying hu, h0, hg]
/-- The address of an element of a slice: it is there, and what lies at it. -/
theorem y_idx {α : Type} {K : Kd α} {F : Nat → Prop} {v : Value} {xs : List α} {i : Int} {x0 : α} {e : TypeId} {zv : Value} {by_ : Nat} (hs : K.Sl F w v xs) (hx : ev E x = some v) (hy : ev E y = some (iv i))
    (h0 : 0 ≤ i) (hg : xs[i.toNat]? = some x0) (hu : P.underlying t = some (.slice e)) (hi : Inf P e zv K.sz by_) :
    ∃ ad cs, F ad.block ∧ K.R F w cs x0 ∧ CellsAt w ad cs ∧ Y P n E S ⟨some d, .indexAddr t x y, ty, pos, af, gd⟩ (.pointer (some ad)) := by
  obtain ⟨A, c, cs, e1, hc1, hc2, he, hcell⟩ := hs
  obtain ⟨hlt', hx0⟩ := List.getElem?_eq_some_iff.1 hg
  obtain ⟨ad, rfl, hF, hcs⟩ := hcell (fun h => by rw [h] at hlt'; simp at hlt')
  obtain ⟨c0, ds, e2, hr⟩ := he.get hlt'
  rw [hx0] at hr
  have hd := hcs.drop (i.toNat * K.sz)
  rw [e2] at hd
  refine ⟨ad.add (i.toNat * K.sz), c0, by rw [add_block]; exact hF, hr, hd.left, fun a w ha _ => ?_⟩
  have hb : 0 ≤ i ∧ i < (xs.length : Int) := by omega
  simp [execOp, ha.eval hx, ha.eval hy, Instr.indexAt, asIntOf, run_underlying hu, e1, hb, hi.size]
theorem y_reslice {α : Type} {K : Kd α} {F : Nat → Prop} {e : TypeId} {v : Value} {xs : List α} {lo up : Option Operand} {l h : Int} {zv : Value} {by_ : Nat}
    (hs : K.Sl F w v xs) (hx : ev E x = some v) (hlo : Bd E lo 0 l) (hup : Bd E up xs.length h) (h0 : 0 ≤ l) (h1 : l ≤ h) (h2 : h ≤ xs.length)
    (hu : P.underlying t = some (.slice e)) (hi : Inf P e zv K.sz by_) :
    ∃ v', K.Sl F w v' ((xs.take h.toNat).drop l.toNat) ∧ Y P n E S ⟨some d, .slice t x lo up none, ty, pos, af, gd⟩ v' := by
  obtain ⟨A, c, cs, e1, hc1, hc2, he, hcell⟩ := hs
  refine ⟨.slice (if c = l.toNat then A else A.map (·.add (l.toNat * K.sz))) (h.toNat - l.toNat) (c - l.toNat), ?_, fun a w ha _ => ?_⟩
  · have hlen : ((xs.take h.toNat).drop l.toNat).length = h.toNat - l.toNat := by simp; omega
    refine ⟨_, c - l.toNat, (cs.take (h.toNat * K.sz)).drop (l.toNat * K.sz), by rw [hlen], by omega, by omega, (he.take _).drop _, fun hne => ?_⟩
    have hpos : 0 < h.toNat - l.toNat := by rw [← hlen]; exact List.length_pos_iff.2 hne
    obtain ⟨ad, rfl, hF, hcs⟩ := hcell (fun h => by subst h; simp at hne)
    have hne2 : ¬ c = l.toNat := by omega
    rw [if_neg hne2]
    exact ⟨ad.add (l.toNat * K.sz), rfl, by rw [add_block]; exact hF, (hcs.take _).drop _⟩
  · have hrun := run_bounds (P := P) (w := w) ha hlo hup h0 h1 h2 hc1
    simp [execOp, ha.eval hx, Instr.sliceAt, Instr.slice, run_underlying hu, e1, hrun, hi.size]
theorem y_sliceB {g off m : Nat} {e : TypeId} {zv : Value} {sz by_ : Nat} (hx : ev E x = some (.pointer (some ⟨g, off, none⟩))) (hu : P.underlying t = some (.array m e)) (hi : Inf P e zv sz by_) :
    Y P n E S ⟨some d, .slice t x none none none, ty, pos, af, gd⟩ (.slice (some ⟨g, off, none⟩) m m) := fun a w ha _ => by
  simp [execOp, ha.eval hx, Instr.sliceAt, run_underlying hu, Instr.sureAddr, Instr.sliceBounds, hi.size, add_zero']
end
end Go.Proofs.YtdaphjnenookiaaDoor
