/- A layer of lemmas: one operation of the model, one step of a walk; it says nothing of a program. -/
import Derived.Test.YtdaphjnenookiaaDoorL2
import Derived.Laws.AppendOwnNone
namespace Go.Proofs.YtdaphjnenookiaaDoor
open Go Go.RowKit
set_option linter.unusedVariables false
set_option linter.unusedSimpArgs false

/-! ## Memory: what is kept -/

theorem add_add (a : Addr) (i j : Nat) : (a.add i).add j = a.add (i + j) := by
  unfold Addr.add
  by_cases hi : i = 0 <;> by_cases hj : j = 0 <;> simp [hi, hj, Nat.add_assoc]
theorem add_block (a : Addr) (n : Nat) : (a.add n).block = a.block := by unfold Addr.add; split <;> rfl
theorem add_zero' (a : Addr) : a.add 0 = a := by simp [Addr.add]
theorem add_none (g o k : Nat) : (⟨g, o, none⟩ : Addr).add k = ⟨g, o + k, none⟩ := by
  unfold Addr.add
  split <;> simp_all

/-- Nothing that was there has turned. -/
abbrev Ext (w w' : World) : Prop := Below w.heap.size w w'
theorem Ext.refl (w : World) : Ext w w := Below.refl _ _
theorem Ext.trans {a b c : World} (h : Ext a b) (k : Ext b c) : Ext a c := Below.trans h (k.mono h.size)
theorem Ext.alloc (w : World) (o : Obj) : Ext w (w.alloc o) := Below.alloc (Below.refl _ _) (Nat.le_refl _) o
theorem Ext.drew (w : World) : Ext w w.drew := Below.drew (Below.refl _ _)
theorem Below.ext {B : Nat} {a b c : World} (h : Below B a b) (k : Ext b c) (hB : B ≤ b.heap.size) : Below B a c := h.trans (k.mono hB)

def CellsAt (w : World) (a : Addr) (cs : List Value) : Prop := ∀ j u, cs[j]? = some u → w.cell? (a.add j) = some u
def Blk (w : World) (g : Nat) (T : TypeId) (cs : List Value) : Prop := w.heap[g]? = some (.cells cs.toArray T (0, 0))

theorem CellsAt.keep {w w' : World} {a : Addr} {cs : List Value} (h : CellsAt w a cs) (hk : a.block < w.heap.size → w'.heap[a.block]? = w.heap[a.block]?) : CellsAt w' a cs := by
  intro j u hu
  have h1 := h j u hu
  have h2 := World.block_lt_of_cell? w _ h1
  rw [add_block] at h2
  rw [← h1]
  exact World.cell?_of_block (by rw [add_block]; exact hk h2)
theorem CellsAt.ext {w w' : World} {a : Addr} {cs : List Value} (h : CellsAt w a cs) (hx : Ext w w') : CellsAt w' a cs := h.keep fun hl => hx.block _ hl
theorem CellsAt.nil (w : World) (a : Addr) : CellsAt w a [] := fun j u h => by simp at h
theorem CellsAt.drop {w : World} {a : Addr} {cs : List Value} (h : CellsAt w a cs) (k : Nat) : CellsAt w (a.add k) (cs.drop k) := fun j u hu => by
  rw [add_add]
  exact h _ u (by rw [← hu, List.getElem?_drop])
theorem CellsAt.take {w : World} {a : Addr} {cs : List Value} (h : CellsAt w a cs) (k : Nat) : CellsAt w a (cs.take k) := fun j u hu => by
  rw [List.getElem?_take] at hu
  split at hu
  · exact h j u hu
  · cases hu
theorem CellsAt.left {w : World} {a : Addr} {cs ds : List Value} (h : CellsAt w a (cs ++ ds)) : CellsAt w a cs := by
  have := h.take cs.length
  rwa [List.take_left] at this
theorem CellsAt.right {w : World} {a : Addr} {cs ds : List Value} (h : CellsAt w a (cs ++ ds)) : CellsAt w (a.add cs.length) ds := by
  have := h.drop cs.length
  rwa [List.drop_left] at this
theorem Blk.lt {w : World} {g : Nat} {T : TypeId} {cs : List Value} (h : Blk w g T cs) : g < w.heap.size := (Array.getElem?_eq_some_iff.1 h).1
theorem Blk.ext {w w' : World} {g : Nat} {T : TypeId} {cs : List Value} (h : Blk w g T cs) (hx : Ext w w') : Blk w' g T cs := (hx.block g h.lt).trans h
theorem Blk.below {B : Nat} {w w' : World} {g : Nat} {T : TypeId} {cs : List Value} (h : Blk w g T cs) (hx : Below B w w') (hg : g < B) : Blk w' g T cs := (hx.block g hg).trans h
theorem Blk.cells {w : World} {g : Nat} {T : TypeId} {cs : List Value} (h : Blk w g T cs) : CellsAt w ⟨g, 0, none⟩ cs := fun j u hu => by
  rw [add_none, Nat.zero_add, cell_of_row w g j _ T _ h]
  simpa using hu
theorem Blk.at_ {w : World} {g : Nat} {T : TypeId} {cs : List Value} (h : Blk w g T cs) (o : Nat) : CellsAt w ⟨g, o, none⟩ (cs.drop o) := by
  have := h.cells.drop o
  rwa [add_none, Nat.zero_add] at this

/-! ## Kinds: how a value of Lean is told by cells -/

structure Kd (α : Type) where
  sz : Nat
  pos : 0 < sz
  R : (Nat → Prop) → World → List Value → α → Prop
  len : ∀ {F w cs x}, R F w cs x → cs.length = sz
  one : ∀ {F w cs x}, R F w cs x → ∀ u ∈ cs, u.oneCell' = true
  keep : ∀ {F w w' cs x}, R F w cs x → (∀ k, k < w.heap.size → F k → w'.heap[k]? = w.heap[k]?) → R F w' cs x
  mono : ∀ {F F' : Nat → Prop} {w cs x}, R F w cs x → (∀ k, k < w.heap.size → F k → F' k) → R F' w cs x

namespace Kd
def flat {α : Type} (f : α → Value) (h : ∀ x, (f x).oneCell' = true) : Kd α where
  sz := 1
  pos := by decide
  R _ _ cs x := cs = [f x]
  len h := by rw [h]; rfl
  one hr := by intro u hu; rw [hr] at hu; simp at hu; subst hu; exact h _
  keep h _ := h
  mono h _ := h
def u8 : Kd UInt8 := flat u8v fun _ => rfl
def u32 : Kd UInt32 := flat u32v fun _ => rfl
def u64 : Kd UInt64 := flat u64v fun _ => rfl
def bool : Kd Bool := flat Value.bool fun _ => rfl
def str : Kd ByteArray := flat Value.string fun _ => rfl
def int : Kd Int where
  sz := 1
  pos := by decide
  R _ _ cs x := cs = [iv x] ∧ -9223372036854775808 ≤ x ∧ x ≤ 9223372036854775807
  len h := by rw [h.1]; rfl
  one hr := by intro u hu; rw [hr.1] at hu; simp at hu; subst hu; rfl
  keep h _ := h
  mono h _ := h

inductive Els {α : Type} (K : Kd α) (F : Nat → Prop) (w : World) : List Value → List α → Prop
  | nil : Els K F w [] []
  | cons {c cs : List Value} {x : α} {xs : List α} : K.R F w c x → Els K F w cs xs → Els K F w (c ++ cs) (x :: xs)

section
variable {α : Type} {K : Kd α} {F F' : Nat → Prop} {w w' : World}
theorem Els.len {cs : List Value} {xs : List α} (h : Els K F w cs xs) : cs.length = xs.length * K.sz := by
  induction h with
  | nil => simp
  | cons hr _ ih => rw [List.length_append, K.len hr, ih, List.length_cons, Nat.succ_mul]; omega
theorem Els.one {cs : List Value} {xs : List α} (h : Els K F w cs xs) : ∀ u ∈ cs, u.oneCell' = true := by
  induction h with
  | nil => intro u hu; cases hu
  | cons hr _ ih =>
    intro u hu
    rcases List.mem_append.1 hu with hu | hu
    · exact K.one hr u hu
    · exact ih u hu
theorem Els.keep {cs : List Value} {xs : List α} (h : Els K F w cs xs) (hk : ∀ k, k < w.heap.size → F k → w'.heap[k]? = w.heap[k]?) : Els K F w' cs xs := by
  induction h with
  | nil => exact .nil
  | cons hr _ ih => exact .cons (K.keep hr hk) ih
theorem Els.mono {cs : List Value} {xs : List α} (h : Els K F w cs xs) (hk : ∀ k, k < w.heap.size → F k → F' k) : Els K F' w cs xs := by
  induction h with
  | nil => exact .nil
  | cons hr _ ih => exact .cons (K.mono hr hk) ih
theorem Els.append {cs ds : List Value} {xs ys : List α} (h : Els K F w cs xs) (h' : Els K F w ds ys) : Els K F w (cs ++ ds) (xs ++ ys) := by
  induction h with
  | nil => exact h'
  | cons hr _ ih => rw [List.append_assoc]; exact .cons hr ih
theorem Els.single {c : List Value} {x : α} (h : K.R F w c x) : Els K F w c [x] := by
  have := Els.cons h (Els.nil (K := K) (F := F) (w := w))
  rwa [List.append_nil] at this
theorem Els.drop {cs : List Value} {xs : List α} (h : Els K F w cs xs) : ∀ i, Els K F w (cs.drop (i * K.sz)) (xs.drop i) := by
  induction h with
  | nil => intro i; simp; exact .nil
  | @cons c cs x xs hr hs ih =>
    intro i
    cases i with
    | zero => simp; exact .cons hr hs
    | succ i =>
      have e : (c ++ cs).drop ((i + 1) * K.sz) = cs.drop (i * K.sz) := by
        rw [Nat.succ_mul, Nat.add_comm, ← List.drop_drop, ← K.len hr, List.drop_left]
      rw [e]
      exact ih i
theorem Els.take {cs : List Value} {xs : List α} (h : Els K F w cs xs) : ∀ i, Els K F w (cs.take (i * K.sz)) (xs.take i) := by
  induction h with
  | nil => intro i; simp; exact .nil
  | @cons c cs x xs hr hs ih =>
    intro i
    cases i with
    | zero => simp; exact .nil
    | succ i =>
      have e : (c ++ cs).take ((i + 1) * K.sz) = c ++ cs.take (i * K.sz) := by
        rw [Nat.succ_mul, Nat.add_comm, List.take_append, K.len hr, List.take_of_length_le (by rw [K.len hr]; omega)]
        congr 2
        omega
      rw [e]
      exact .cons hr (ih i)
theorem Els.head {cs : List Value} {x : α} {xs : List α} (h : Els K F w cs (x :: xs)) : ∃ c ds, cs = c ++ ds ∧ K.R F w c x ∧ Els K F w ds xs := by
  cases h with
  | cons hr hs => exact ⟨_, _, rfl, hr, hs⟩
theorem Els.get {cs : List Value} {xs : List α} (h : Els K F w cs xs) {i : Nat} (hi : i < xs.length) : ∃ c ds, cs.drop (i * K.sz) = c ++ ds ∧ K.R F w c xs[i] := by
  have hd := h.drop i
  rw [List.drop_eq_getElem_cons hi] at hd
  obtain ⟨c, ds, e, hr, _⟩ := hd.head
  exact ⟨c, ds, e, hr⟩
end

/-- A slice's value that reads as a list. -/
def Sl {α : Type} (K : Kd α) (F : Nat → Prop) (w : World) (v : Value) (xs : List α) : Prop :=
  ∃ A c cs, v = .slice A xs.length c ∧ xs.length ≤ c ∧ c ≤ maxLen ∧ K.Els F w cs xs ∧ (xs ≠ [] → ∃ ad, A = some ad ∧ F ad.block ∧ CellsAt w ad cs)

section
variable {α : Type} {K : Kd α} {F F' : Nat → Prop} {w w' : World} {v : Value} {xs : List α}
theorem Sl.keep (h : K.Sl F w v xs) (hk : ∀ k, k < w.heap.size → F k → w'.heap[k]? = w.heap[k]?) : K.Sl F w' v xs := by
  obtain ⟨A, c, cs, e, h1, h2, h3, h4⟩ := h
  refine ⟨A, c, cs, e, h1, h2, h3.keep hk, fun hn => ?_⟩
  obtain ⟨ad, e1, e2, e3⟩ := h4 hn
  exact ⟨ad, e1, e2, e3.keep fun hl => hk _ hl e2⟩
theorem Sl.ext (h : K.Sl F w v xs) (hx : Ext w w') : K.Sl F w' v xs := h.keep fun k hk _ => hx.block k hk
theorem Sl.mono (h : K.Sl F w v xs) (hk : ∀ k, k < w.heap.size → F k → F' k) : K.Sl F' w v xs := by
  obtain ⟨A, c, cs, e, h1, h2, h3, h4⟩ := h
  refine ⟨A, c, cs, e, h1, h2, h3.mono hk, fun hn => ?_⟩
  obtain ⟨ad, e1, e2, e3⟩ := h4 hn
  refine ⟨ad, e1, hk _ ?_ e2, e3⟩
  cases hcs : cs with
  | nil =>
    have hl := h3.len
    rw [hcs] at hl
    have hp := K.pos
    have hx : 0 < xs.length := List.length_pos_iff.2 hn
    have := Nat.mul_pos hx hp
    simp at hl
    omega
  | cons u us =>
    have := e3 0 u (by rw [hcs]; rfl)
    have := World.block_lt_of_cell? w _ this
    rwa [add_block] at this
theorem Sl.len_le (h : K.Sl F w v xs) : xs.length ≤ maxLen := by
  obtain ⟨A, c, cs, e, h1, h2, h3, h4⟩ := h
  omega
theorem Sl.nil (K : Kd α) (F : Nat → Prop) (w : World) : K.Sl F w (.slice none 0 0) [] := ⟨none, 0, [], rfl, by simp, by simp, .nil, fun h => absurd rfl h⟩
end


/-- A slice as a kind. -/
def slice {α : Type} (K : Kd α) : Kd (List α) where
  sz := 1
  pos := by decide
  R F w cs xs := ∃ v, cs = [v] ∧ K.Sl F w v xs
  len h := by obtain ⟨v, e, _⟩ := h; rw [e]; rfl
  one hr := by
    obtain ⟨v, e, A, c, cs, hv, _⟩ := hr
    intro u hu
    rw [e] at hu
    simp at hu
    subst hu
    rw [hv]
    rfl
  keep h hk := by obtain ⟨v, e, h⟩ := h; exact ⟨v, e, h.keep hk⟩
  mono h hk := by obtain ⟨v, e, h⟩ := h; exact ⟨v, e, h.mono hk⟩

def pair {α β : Type} (K : Kd α) (L : Kd β) : Kd (α × β) where
  sz := K.sz + L.sz
  pos := by have := K.pos; omega
  R F w cs x := ∃ c d, cs = c ++ d ∧ K.R F w c x.1 ∧ L.R F w d x.2
  len h := by obtain ⟨c, d, e, h1, h2⟩ := h; rw [e, List.length_append, K.len h1, L.len h2]
  one h := by
    obtain ⟨c, d, e, h1, h2⟩ := h
    intro u hu
    rw [e] at hu
    rcases List.mem_append.1 hu with hu | hu
    · exact K.one h1 u hu
    · exact L.one h2 u hu
  keep h hk := by obtain ⟨c, d, e, h1, h2⟩ := h; exact ⟨c, d, e, K.keep h1 hk, L.keep h2 hk⟩
  mono h hk := by obtain ⟨c, d, e, h1, h2⟩ := h; exact ⟨c, d, e, K.mono h1 hk, L.mono h2 hk⟩

def iso {α β : Type} (K : Kd α) (f : β → α) : Kd β where
  sz := K.sz
  pos := K.pos
  R F w cs x := K.R F w cs (f x)
  len h := K.len h
  one h := K.one h
  keep h hk := K.keep h hk
  mono h hk := K.mono h hk

/-- An array of n. -/
def arr {α : Type} (n : Nat) (hn : 0 < n) (K : Kd α) : Kd (List α) where
  sz := n * K.sz
  pos := Nat.mul_pos hn K.pos
  R F w cs xs := xs.length = n ∧ K.Els F w cs xs
  len h := by rw [h.2.len, h.1]
  one h := h.2.one
  keep h hk := ⟨h.1, h.2.keep hk⟩
  mono h hk := ⟨h.1, h.2.mono hk⟩

/-- A flat array: each element one cell, told by a function. -/
def farr {α : Type} (n : Nat) (hn : 0 < n) (f : α → Value) (hf : ∀ x, (f x).oneCell' = true) : Kd (List α) where
  sz := n
  pos := hn
  R _ _ cs xs := xs.length = n ∧ cs = xs.map f
  len h := by rw [h.2, List.length_map, h.1]
  one h := by
    intro u hu
    rw [h.2] at hu
    obtain ⟨x, _, rfl⟩ := List.mem_map.1 hu
    exact hf x
  keep h _ := h
  mono h _ := h

def key : Kd (List UInt8) := farr 32 (by decide) u8v fun _ => rfl

/-- A row of the call's own, that may be appended to. -/
def Own {α : Type} (K : Kd α) (F : Nat → Prop) (B : Nat) (E : TypeId) (w : World) (v : Value) (xs : List α) : Prop :=
  ∃ cs, w.ownsRow B E K.sz v xs.length cs ∧ K.Els F w cs xs

section
variable {α : Type} {K : Kd α} {F F' : Nat → Prop} {B B' : Nat} {E : TypeId} {w w' : World} {v : Value} {xs : List α}
theorem Own.ext (h : K.Own F B E w v xs) (hx : Ext w w') : K.Own F B E w' v xs := by
  obtain ⟨cs, h1, h2⟩ := h
  refine ⟨cs, h1.kept (row := none) ⟨hx.os, hx.tape, hx.output, hx.size, fun k hk _ => hx.block k hk⟩ ?_, h2.keep fun k hk _ => hx.block k hk⟩
  cases v.ownBlock <;> simp
theorem Own.lower (h : K.Own F B E w v xs) (hB : B' ≤ B) : K.Own F B' E w v xs := by
  obtain ⟨cs, ⟨h0, h1⟩, h2⟩ := h
  refine ⟨cs, ⟨h0, ?_⟩, h2⟩
  rcases h1 with h1 | ⟨g, cap, cur, e, hg, r⟩
  · exact .inl h1
  · exact .inr ⟨g, cap, cur, e, Nat.le_trans hB hg, r⟩
theorem Own.nil (K : Kd α) (F : Nat → Prop) (B : Nat) (E : TypeId) (w : World) : K.Own F B E w (.slice none 0 0) [] := ⟨[], World.ownsRow_nil _ _ _ _, .nil⟩
theorem Own.sl (h : K.Own F B E w v xs) (hF : ∀ k, B ≤ k → F k) : K.Sl F w v xs := by
  obtain ⟨cs, ⟨h0, h1⟩, h2⟩ := h
  rcases h1 with ⟨e, hn⟩ | ⟨g, cap, cur, e, hg, hh, hc, hm, hs, ht⟩
  · have hx : xs = [] := List.eq_nil_of_length_eq_zero hn
    subst hx
    subst e
    exact Sl.nil K F w
  · refine ⟨some ⟨g, 0, none⟩, cap, cs, e, hc, hm, h2, fun _ => ⟨_, rfl, hF g hg, fun j u hu => ?_⟩⟩
    have := World.ownsRow.cells (w := w) (base := B) (e := E) (size := K.sz) (v := v) (n := xs.length) (xs := cs) ⟨h0, .inr ⟨g, cap, cur, e, hg, hh, hc, hm, hs, ht⟩⟩ (g := g) (by rw [e]; rfl)
    exact this j u hu
end

end Kd
end Go.Proofs.YtdaphjnenookiaaDoor
