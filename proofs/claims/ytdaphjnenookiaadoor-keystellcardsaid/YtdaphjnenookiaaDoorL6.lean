/- A layer of lemmas: one operation of the model, one step of a walk; it says nothing of a program. -/
import Derived.Test.YtdaphjnenookiaaDoorL5
namespace Go.Proofs.YtdaphjnenookiaaDoor
open Go Go.RowKit
set_option linter.unusedVariables false
set_option linter.unusedSimpArgs false

theorem run_sliceBound {P : Program} {w : World} {i : Int} {y : Nat} {c : BoundsCode} (h0 : 0 ≤ i) (h1 : i ≤ y) : (Instr.sliceBound (iv i) y c).run P w = .ok i.toNat w := by
  have hb : 0 ≤ i ∧ i ≤ (y : Int) := ⟨h0, h1⟩
  simp [Instr.sliceBound, asIntOf, hb]

/-- A bound of a slice expression. -/
def Bd (E : Env) (o : Option Operand) (dflt : Int) (i : Int) : Prop := (o = none ∧ i = dflt) ∨ ∃ x, o = some x ∧ ev E x = some (iv i)

section
variable {P : Program} {n : Nat} {E : Env} {w : World} {Q : Exit → Env → World → Prop} {ops : Array Oper} {rest : List Oper} {o : Oper} {d : Nat}
variable {x y z : Operand} {t t' ty : TypeId} {pos : String} {af : Array Edge}

theorem run_bounds {a : Act} {lo up : Option Operand} {l h : Int} {m c : Nat} (ha : Holds n a E) (hlo : Bd E lo 0 l) (hup : Bd E up m h) (h0 : 0 ≤ l) (h1 : l ≤ h) (h2 : h ≤ m) (hc : m ≤ c) :
    (Instr.sliceBounds true m c (lo.map a.eval) (up.map a.eval) none).run P w = .ok (l.toNat, h.toNat, c) w := by
  have hs : ∀ {v : Value}, v = iv l → (Instr.sliceBound v h.toNat .sliceB).run P w = .ok l.toNat w := fun e => by rw [e]; exact run_sliceBound h0 (by omega)
  have hs2 : ∀ {v : Value}, v = iv h → (Instr.sliceBound v c .sliceAcap).run P w = .ok h.toNat w := fun e => by rw [e]; exact run_sliceBound (by omega) (by omega)
  rcases hup with ⟨r1, r2⟩ | ⟨q, r1, r2⟩
  · have e : h.toNat = m := by omega
    rcases hlo with ⟨s1, s2⟩ | ⟨q', s1, s2⟩
    · subst r1; subst s1
      have e' : l.toNat = 0 := by omega
      simp [Instr.sliceBounds, e, e']
    · subst r1; subst s1
      have := hs (ha.eval s2)
      rw [e] at this
      simp [Instr.sliceBounds, e, this]
  · have h3 := hs2 (ha.eval r2)
    rcases hlo with ⟨s1, s2⟩ | ⟨q', s1, s2⟩
    · subst r1; subst s1
      have e' : l.toNat = 0 := by omega
      simp [Instr.sliceBounds, h3, e']
    · subst r1; subst s1
      have := hs (ha.eval s2)
      simp [Instr.sliceBounds, h3, this]

theorem s_reslice {α : Type} {K : Kd α} {F : Nat → Prop} {e : TypeId} {v : Value} {xs : List α} {lo up : Option Operand} {l h : Int} {zv : Value} {by_ : Nat}
    (hx : ev E x = some v) (hs : K.Sl F w v xs) (hlo : Bd E lo 0 l) (hup : Bd E up xs.length h) (h0 : 0 ≤ l) (h1 : l ≤ h) (h2 : h ≤ xs.length)
    (hu : P.underlying t = some (.slice e)) (hi : Inf P e zv K.sz by_)
    (k : ∀ v', K.Sl F w v' ((xs.take h.toNat).drop l.toNat) → G P n ops Q rest ((d, v') :: E) w) (hlt : d < n := by decide) :
    G P n ops Q (⟨some d, .slice t x lo up none, ty, pos, af, none⟩ :: rest) E w := by
  obtain ⟨A, c, cs, e1, hc1, hc2, he, hcell⟩ := hs
  refine G_val (v := .slice (if c = l.toNat then A else A.map (·.add (l.toNat * K.sz))) (h.toNat - l.toNat) (c - l.toNat)) (w' := w) rfl rfl hlt (fun a ha => ?_) (k _ ?_)
  · have hrun := run_bounds (P := P) (w := w) ha hlo hup h0 h1 h2 hc1
    simp [execOp, ha.eval hx, Instr.sliceAt, Instr.slice, run_underlying hu, e1, hrun, hi.size]
  · have hlen : ((xs.take h.toNat).drop l.toNat).length = h.toNat - l.toNat := by simp; omega
    refine ⟨_, c - l.toNat, (cs.take (h.toNat * K.sz)).drop (l.toNat * K.sz), by rw [hlen], by omega, by omega, (he.take _).drop _, fun hne => ?_⟩
    have hpos : 0 < h.toNat - l.toNat := by rw [← hlen]; exact List.length_pos_iff.2 hne
    obtain ⟨ad, rfl, hF, hcs⟩ := hcell (fun h => by subst h; simp at hne)
    have hne2 : ¬ c = l.toNat := by omega
    rw [if_neg hne2]
    exact ⟨ad.add (l.toNat * K.sz), rfl, by rw [add_block]; exact hF, (hcs.take _).drop _⟩

/-- All of an array that lies at an address. -/
theorem s_sliceB {g off m : Nat} {e : TypeId} {zv : Value} {sz by_ : Nat} (hx : ev E x = some (.pointer (some ⟨g, off, none⟩))) (hu : P.underlying t = some (.array m e)) (hi : Inf P e zv sz by_)
    (k : G P n ops Q rest ((d, .slice (some ⟨g, off, none⟩) m m) :: E) w) (hlt : d < n := by decide) : G P n ops Q (⟨some d, .slice t x none none none, ty, pos, af, none⟩ :: rest) E w :=
  G_val rfl rfl hlt (fun a ha => by
    simp [execOp, ha.eval hx, Instr.sliceAt, run_underlying hu, Instr.sureAddr, Instr.sliceBounds, hi.size, add_zero']) k

theorem Kd.Sl.ofCells {α : Type} {K : Kd α} {F : Nat → Prop} {ad : Addr} {m : Nat} {cs : List Value} {xs : List α} (hc : CellsAt w ad cs) (he : K.Els F w cs xs) (hm : m = xs.length) (hmax : m ≤ maxLen) (hF : F ad.block) :
    K.Sl F w (.slice (some ad) m m) xs := by
  subst hm
  exact ⟨_, _, cs, rfl, Nat.le_refl _, hmax, he, fun _ => ⟨ad, rfl, hF, hc⟩⟩

theorem Kd.Els.map {α : Type} {f : α → Value} {hf : ∀ x, (f x).oneCell' = true} {F : Nat → Prop} : ∀ xs : List α, (Kd.flat f hf).Els F w (xs.map f) xs
  | [] => .nil
  | x :: xs => Kd.Els.cons (c := [f x]) rfl (Kd.Els.map xs)
theorem Kd.Els.unmap {α : Type} {f : α → Value} {hf : ∀ x, (f x).oneCell' = true} {F : Nat → Prop} {cs : List Value} {xs : List α} (h : (Kd.flat f hf).Els F w cs xs) : cs = xs.map f := by
  induction h with
  | nil => rfl
  | cons hr _ ih => rw [show _ = [f _] from hr, ih]; rfl

theorem s_make {α : Type} {K : Kd α} {F : Nat → Prop} {m : Nat} {i : Int} {x0 : α} {e : TypeId} {zv : Value} {by_ : Nat} (hx : ev E x = some (iv i)) (hy : ev E y = some (iv i)) (hi0 : i = m) (hu : P.underlying t = some (.slice e)) (hi : Inf P e zv K.sz by_)
    (h1 : zv.cells = #[zv]) (hz : K.R F w [zv] x0) (hby : by_ * m ≤ 281474976710656) (h63 : m ≤ maxLen) (hflat : ∀ w', Ext w w' → K.R F w' [zv] x0)
    (k : ∀ v' w', K.Own F w.heap.size e w' v' (List.replicate m x0) → Ext w w' → G P n ops Q rest ((d, v') :: E) w') (hlt : d < n := by decide) :
    G P n ops Q (⟨some d, .makeSlice t x y, ty, pos, af, none⟩ :: rest) E w := by
  obtain ⟨i', hi1, hi2, hi3, hi4⟩ := info_parts hi
  subst hi0
  obtain ⟨w', hr, ho, hg⟩ := run_make_full (P := P) w w.heap.size t e i' zv K.sz hu hi1 hi2 hi3 .i64 .i64 m (by rw [hi4]; exact hby) h63 (Nat.le_refl _)
  have hsz : K.sz = 1 := by have := K.len hz; simpa using this.symm
  have hext : Ext w w' := ⟨hg.os, hg.tape, hg.output, hg.size, fun k hk => hg.block k hk (by simp)⟩
  have hels : ∀ m, K.Els F w' (List.replicate m zv) (List.replicate m x0) := by
    intro m
    induction m with
    | zero => exact .nil
    | succ m ih => exact Kd.Els.cons (c := [zv]) (hflat _ hext) ih
  refine G_val (v := .slice (some ⟨w.heap.size, 0, none⟩) m m) (w' := w') rfl rfl hlt (fun a ha => by simp [execOp, ha.eval hx, ha.eval hy, hr]) (k _ w' ⟨List.replicate m zv, ?_, hels m⟩ hext)
  rw [List.length_replicate]
  rw [h1, toList_madeCells_one, hsz, Nat.mul_one] at ho
  rw [hsz]
  exact ho

/-! ## Strings -/
theorem v_cat {a b : ByteArray} (h : a.size + b.size ≤ maxLen) : (binOp .add t (.string a) (.string b)).run P w = .ok (.string (a ++ b)) w := by
  simp only [maxLen] at h
  have h' : (a.size : Int) + b.size ≤ 9223372036854775807 := by omega
  simp [binOp, Op.stringOp, h']
end
end Go.Proofs.YtdaphjnenookiaaDoor
