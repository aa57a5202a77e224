/- A layer of lemmas: one operation of the model, one step of a walk; it says nothing of a program. -/
import Derived.Test.YtdaphjnenookiaaDoorL12
import Derived.ProofKit
import Derived.Deep.Slices
namespace Go.Proofs.YtdaphjnenookiaaDoor
open Go Go.RowKit
set_option linter.unusedVariables false
set_option linter.unusedSimpArgs false

/-- What can be read at a type is of a kind. -/
def Rd {α : Type} (P : Program) (T : TypeId) (K : Kd α) : Prop :=
  ∀ {H : Type} (enc : TypeId × Value → H) (w : World) (base : Nat) (spare : Nat → Bool) (held : Bool) (fuel : Nat) (cs : List Value) (x : DataW H × List MemPlace),
    DataW.trod enc P w base spare held fuel T cs = some x → ∃ el, K.R (fun _ => True) w cs el

theorem CellsAt.app {w : World} {a : Addr} {cs ds : List Value} (h : CellsAt w a cs) (k : CellsAt w (a.add cs.length) ds) : CellsAt w a (cs ++ ds) := by
  intro j u hu
  rcases Nat.lt_or_ge j cs.length with hj | hj
  · rw [List.getElem?_append_left hj] at hu
    exact h j u hu
  · rw [List.getElem?_append_right hj] at hu
    have := k _ u hu
    rwa [add_add, show cs.length + (j - cs.length) = j from by omega] at this
theorem rd_els {α : Type} {K : Kd α} {w : World} {a : Addr} : ∀ (len : Nat), (∀ i, i < len → ∃ cs el, CellsAt w (a.add (i * K.sz)) cs ∧ K.R (fun _ => True) w cs el) → ∃ cs xs, xs.length = len ∧ K.Els (fun _ => True) w cs xs ∧ CellsAt w a cs
  | 0, _ => ⟨[], [], rfl, .nil, CellsAt.nil _ _⟩
  | len + 1, h => by
    obtain ⟨cs, xs, h1, h2, h3⟩ := rd_els len (fun i hi => h i (by omega))
    obtain ⟨ds, el, h4, h5⟩ := h len (by omega)
    refine ⟨cs ++ ds, xs ++ [el], by rw [List.length_append, h1]; rfl, h2.append (Kd.Els.single h5), h3.app ?_⟩
    rw [h2.len, h1]
    exact h4
theorem rd_u64 {P : Program} {T : TypeId} (hu : P.underlying T = some (.int .u64)) : Rd P T Kd.u64 := by
  intro H enc w base spare held fuel cs x h
  obtain ⟨n, rfl, _, wf⟩ := DataW.trod_int hu h
  have hw : 0 ≤ n ∧ n ≤ 18446744073709551615 := by
    have w2 := wf
    simp [Lit.wf, IntKind.min, IntKind.max, IntKind.signed, IntKind.bits] at w2
    omega
  refine ⟨UInt64.ofNat n.toNat, ?_⟩
  show [Value.int .u64 n] = [u64v (UInt64.ofNat n.toNat)]
  have : ((UInt64.ofNat n.toNat).toNat : Int) = n := by
    rw [UInt64.toNat_ofNat', Nat.mod_eq_of_lt (by omega)]
    omega
  unfold u64v
  rw [this]
theorem rd_slice {α : Type} {P : Program} {T e : TypeId} {K : Kd α} (hu : P.underlying T = some (.slice e)) (hc : P.cellsOf e = K.sz) (hr : Rd P e K) : Rd P T (Kd.slice K) := by
  intro H enc w base spare held fuel cs x h
  rcases Go.Deep.open_slice hu h with ⟨rfl, _⟩ | ⟨a, len, cap, m, n, D, Pl, rfl, hb, hl, hm, hmm, _, hx⟩
  · exact ⟨[], _, rfl, Kd.Sl.nil _ _ _⟩
  · have hle : len ≤ m := by rw [hmm]; split <;> omega
    obtain ⟨ds, xs, h1, h2, h3⟩ := rd_els (K := K) (w := w) (a := a) len (fun i hi => by
      obtain ⟨cs', k1, k2⟩ := hx i (by omega)
      obtain ⟨el, k3⟩ := hr enc w base spare held n cs' _ k2
      obtain ⟨_, k4, k5⟩ := World.cells?_some k1
      refine ⟨cs', el, fun j u hu => ?_, k3⟩
      rw [hc] at k5
      have hj : j < K.sz := by
        have := (List.getElem?_eq_some_iff.1 hu).1
        rw [k4, hc] at this
        exact this
      rw [k5 j (by rw [hc] at *; exact hj)]
      exact hu)
    refine ⟨xs, _, rfl, some a, cap, ds, by rw [h1], by rw [h1]; exact hl, hm, h2, fun _ => ⟨a, rfl, trivial, h3⟩⟩
theorem seg {H : Type} {enc : TypeId × Value → H} {P : Program} {w : World} {base : Nat} {spare : Nat → Bool} {held : Bool} {n : Nat} {fs : Array Field} {cs : List Value} {xs : List (DataW H × List MemPlace)} {f : Field} {T : TypeId} {c : Nat}
    (hf : ∀ (i : Nat) (f : Field), fs[i]? = some f → DataW.trod enc P w base spare held n f.type ((cs.drop f.offset).take (P.cellsOf f.type)) = xs[i]?) (hlen : xs.length = fs.size) (i : Nat) (ds : List Value) (hi : fs[i]? = some f) (ht : f.type = T) (hc : P.cellsOf T = c) (hd : (cs.drop f.offset).take c = ds) :
    ∃ y, DataW.trod enc P w base spare held n T ds = some y := by
  have h1 := hf i f hi
  have h2 : i < xs.length := by rw [hlen]; exact (Array.getElem?_eq_some_iff.1 hi).1
  rw [List.getElem?_eq_getElem h2, ht, hc, hd] at h1
  exact ⟨_, h1⟩
end Go.Proofs.YtdaphjnenookiaaDoor
