/- That a chain that is told rightly checks, in plain Lean. -/
import Derived.Test.YtdaphjnenookiaaDoorProg
import Derived.Test.YtdaphjnenookiaaDoorNm
import Derived.Test.YtdaphjnenookiaaDoorwords
import Derived.Test.YtdaphjnenookiaaDoorsha
import Derived.Test.YtdaphjnenookiaaDoorrsha
import Derived.Test.YtdaphjnenookiaaDoorscal
import Derived.Test.YtdaphjnenookiaaDoorgrp
import Derived.Test.YtdaphjnenookiaaDoorprf
import Derived.Test.YtdaphjnenookiaaDoorkys
import Derived.Test.YtdaphjnenookiaaDoorchk
namespace Go.Proofs.YtdaphjnenookiaaDoor
open Go Go.RowKit Go.Proofs
set_option linter.unusedVariables false
set_option linter.unusedSimpArgs false
set_option maxRecDepth 4000


/-! ## The plain law: what is told rightly checks -/
/-- base^e mod m by squaring, fuel k. -/
def powm (m : Nat) : Nat → Nat → Nat → Nat → Nat
  | 0, _, _, acc => acc
  | k + 1, b, e, acc => powm m k (b * b % m) (e / 2) (if e % 2 = 1 then acc * b % m else acc)
theorem powm_eq (m : Nat) (hm : 1 < m) : ∀ (k b e acc : Nat), e < 2 ^ k → acc < m → powm m k b e acc = acc * b ^ e % m := by
  intro k
  induction k with
  | zero =>
    intro b e acc he ha
    have : e = 0 := by simpa using he
    subst this
    simp [powm, Nat.mod_eq_of_lt ha]
  | succ k ih =>
    intro b e acc he ha
    have hd : e / 2 < 2 ^ k := by rw [Nat.pow_succ] at he; omega
    unfold powm
    have hb : (b * b % m) ^ (e / 2) % m = b ^ (2 * (e / 2)) % m := by
      rw [← Nat.pow_mod, Nat.pow_mul]
      congr 2
      rw [Nat.pow_two]
    by_cases h : e % 2 = 1
    · rw [if_pos h, ih _ _ _ hd (Nat.mod_lt _ (by omega))]
      have he' : e = 2 * (e / 2) + 1 := by omega
      rw [Nat.mul_mod, hb, Nat.mod_mod, ← Nat.mul_mod]
      conv => rhs; rw [he', Nat.pow_succ]
      congr 1
      rw [Nat.mul_assoc, Nat.mul_comm b]
    · rw [if_neg h, ih _ _ _ hd ha]
      have he' : e = 2 * (e / 2) := by omega
      rw [Nat.mul_mod, hb, ← Nat.mul_mod]
      conv => rhs; rw [he']
theorem g_pow_N : 37 ^ gN % gP = 1 := by
  have h := powm_eq gP (by decide) 61 37 gN 1 (by decide) (by decide)
  rw [Nat.one_mul] at h
  rw [← h]
  decide +kernel
/-- A number whose order divides the number of exponents. -/
def Gen (x : UInt64) : Prop := x.toNat ^ gN % gP = 1 ∧ x.toNat < gP
theorem gen_of {x : UInt64} {n : Nat} (h : x.toNat = n) (hn : n ^ gN % gP = 1) (hl : n < gP) : Gen x := ⟨by rw [h]; exact hn, by rw [h]; exact hl⟩
theorem nat37 : (37 : UInt64).toNat = 37 := rfl
theorem gen37 : Gen 37 := gen_of nat37 g_pow_N (by decide)
theorem one_lt_gP : 1 % gP = 1 := by decide
theorem pow_one_mod {b : Nat} (h : b % gP = 1) (k : Nat) : b ^ k % gP = 1 := by
  rw [Nat.pow_mod, h, Nat.one_pow]; exact one_lt_gP
theorem gen_pow {x : UInt64} (h : Gen x) (e : UInt64) : Gen (powP x e) := by
  refine ⟨?_, by rw [powP_nat]; exact modP_lt _⟩
  rw [powP_nat, ← Nat.pow_mod, ← Nat.pow_mul, Nat.mul_comm, Nat.pow_mul]
  exact pow_one_mod h.1 _
theorem gen_in {x : UInt64} (h : Gen x) : inG x = true := by
  rcases inG_or h.2 with h0 | h0
  · subst h0
    have h1 := h.1
    rw [show (0 : UInt64).toNat = 0 from rfl, Nat.zero_pow (by decide)] at h1
    exact absurd h1 (by decide)
  · exact h0
theorem timesP_gen {x : UInt64} (h : Gen x) (e : UInt64) : timesP x e = powP x e := by unfold timesP; rw [gen_in h]; rfl
theorem gen_times {x : UInt64} (h : Gen x) (e : UInt64) : Gen (timesP x e) := by rw [timesP_gen h]; exact gen_pow h e
theorem pow_congr {x : UInt64} (h : Gen x) {m n : Nat} (hmn : m % gN = n % gN) : x.toNat ^ m % gP = x.toNat ^ n % gP := by
  have key : ∀ m, x.toNat ^ m % gP = x.toNat ^ (m % gN) % gP := fun m => by
    conv => lhs; rw [← Nat.div_add_mod m gN]
    rw [Nat.pow_add, Nat.pow_mul, Nat.mul_mod, pow_one_mod h.1, Nat.one_mul, Nat.mod_mod]
  rw [key m, key n, hmn]
theorem ofN_lt (bs : List UInt8) : (ofN bs).toNat < gN := by
  rcases List.eq_nil_or_concat bs with rfl | ⟨l, a, rfl⟩
  · exact (by decide : (0 : Nat) < gN)
  · rw [List.concat_eq_append, ofN_snoc]
    exact redN_lt _
theorem subN_lt (a b : UInt64) : (subN a b).toNat < gN := redN_lt _
theorem subN_nat (a b : UInt64) : (subN a b).toNat = (a.toNat % gN + gN - b.toNat % gN) % gN := by
  have h1 := redN_lt a
  have h2 := redN_lt b
  have h3 : (redN a + 2305843009213693950 - redN b).toNat = (redN a).toNat + gN - (redN b).toNat := by
    rw [u64_sub, u64_add]
    have e : (2305843009213693950 : UInt64).toNat = gN := rfl
    rw [e]
    generalize (redN a).toNat = p at *
    generalize (redN b).toNat = q at *
    unfold gN at *
    omega
  unfold subN
  rw [redN_nat, h3, redN_nat, redN_nat]
theorem ans_nat (d q N : Nat) (hq : q < N) : ((d % N + N - q) % N + q) % N = d % N := by
  rw [Nat.mod_add_mod, show d % N + N - q + q = d % N + N from by omega, Nat.add_mod_right, Nat.mod_mod]
theorem ans_gen (N d s c a : Nat) (hN : 0 < N) (ha : a = (d % N + N - c * s % N % N) % N) : (a + s * c) % N = d % N := by
  subst ha
  rw [Nat.mod_mod, ← Nat.add_mod_mod, Nat.mul_comm s]
  exact ans_nat _ _ N (Nat.mod_lt _ hN)
theorem gN_pos : 0 < gN := by decide
theorem answer_nat (c secret draw : UInt64) : (answerS c secret draw).toNat = (draw.toNat % gN + gN - c.toNat * secret.toNat % gN % gN) % gN :=
  (subN_nat draw (mulN c secret)).trans (congrArg (fun n => (draw.toNat % gN + gN - n % gN) % gN) (mulN_nat c secret))
theorem answer_mod (c secret draw : UInt64) : ((answerS c secret draw).toNat + secret.toNat * c.toNat) % gN = draw.toNat % gN :=
  ans_gen gN _ _ _ _ gN_pos (answer_nat c secret draw)
theorem lt_N {x : UInt64} (h : x.toNat < gN) : decide (x < 2305843009213693950) = true := decide_eq_true (UInt64.lt_iff_toNat_lt.2 h)
theorem back_ok {g : UInt64} (hg : Gen g) (secret draw c : UInt64) : backP g (timesP g secret) c (answerS c secret draw) = timesP g draw := by
  have hx := gen_times hg secret
  unfold backP
  rw [timesP_gen hx, timesP_gen hg, timesP_gen hg, timesP_gen hg]
  apply u64_eq
  rw [mulP_nat, powP_nat, powP_nat, powP_nat, powP_nat, ← Nat.pow_mod, ← Nat.mul_mod, ← Nat.pow_mul, ← Nat.pow_add]
  exact pow_congr hg (answer_mod c secret draw)
theorem challenge_lt (nm : List UInt8) (l : List UInt64) : (challengeS nm l).toNat < gN := ofN_lt _
theorem answer_lt (c s d : UInt64) : (answerS c s d).toNat < gN := subN_lt _ _
theorem check_of {g x c s : UInt64} (h1 : inG g = true) (h2 : inG x = true) (h3 : decide (c < 2305843009213693950) = true) (h4 : decide (s < 2305843009213693950) = true) (h5 : challengeS knowW [g, x, backP g x c s] = c) : checkS g x c s = true := by
  unfold checkS
  rw [h1, h2, h3, h4, decide_eq_true h5]
  rfl
theorem knowC_def (g x d : UInt64) : knowC g x d = challengeS knowW [g, x, timesP g d] := by unfold knowC; exact Eq.refl _
/-- A proof of what one knows checks. -/
theorem know_checks {g : UInt64} (hg : Gen g) (secret draw : UInt64) : checkS g (timesP g secret) (knowC g (timesP g secret) draw) (answerS (knowC g (timesP g secret) draw) secret draw) = true := by
  refine check_of (gen_in hg) (gen_in (gen_times hg secret)) (lt_N ?_) (lt_N (answer_lt _ _ _)) ?_
  · rw [knowC_def]; exact challenge_lt _ _
  · rw [back_ok hg, ← knowC_def]
theorem okP_tell {b : UInt64} (hb : Gen b) (x y z : UInt64) (d : List UInt64) : okP b (tellS b x y z d) = true := by
  have h1 := know_checks hb x (d.getD 0 0)
  have h2 := know_checks hb y (d.getD 1 0)
  have h3 := know_checks gen37 z (d.getD 2 0)
  show (decide (b = b) && (checkS b (timesP b x) (knowC b (timesP b x) (d.getD 0 0)) (answerS (knowC b (timesP b x) (d.getD 0 0)) x (d.getD 0 0)) && (checkS b (timesP b y) (knowC b (timesP b y) (d.getD 1 0)) (answerS (knowC b (timesP b y) (d.getD 1 0)) y (d.getD 1 0)) && checkS 37 (timesP 37 z) (knowC 37 (timesP 37 z) (d.getD 2 0)) (answerS (knowC 37 (timesP 37 z) (d.getD 2 0)) z (d.getD 2 0))))) = true
  rw [h1, h2, h3, decide_eq_true rfl]
  rfl
theorem okAll_append : ∀ (l : List (List UInt64)) (p : List UInt64) (b c : UInt64), okAll l b = true → (l.getLast?.map (fun q => q.getD 1 0)).getD b = c → okP c p = true → okAll (l ++ [p]) b = true
  | [], p, b, c, _, hc, hp => by
    have : b = c := hc
    subst this
    show (okP b p && true) = true
    rw [hp]; rfl
  | q :: l, p, b, c, h, hc, hp => by
    show (okP b q && okAll (l ++ [p]) (q.getD 1 0)) = true
    have h' : (okP b q && okAll l (q.getD 1 0)) = true := h
    rw [Bool.and_eq_true] at h'
    rw [h'.1, Bool.true_and]
    refine okAll_append l p _ c h'.2 ?_ hp
    rw [← hc, List.getLast?_cons]
    cases l.getLast? <;> rfl
/-- A told chain checks. -/
theorem chain_ok (L ds : List (List UInt64)) : ∀ k, okAll (chainF L ds k).1 37 = true ∧ Gen (chainF L ds k).2 ∧ ((chainF L ds k).1.getLast?.map (fun q => q.getD 1 0)).getD 37 = (chainF L ds k).2
  | 0 => ⟨rfl, gen37, rfl⟩
  | k + 1 => by
    obtain ⟨h1, h2, h3⟩ := chain_ok L ds k
    rw [chainF]
    refine ⟨okAll_append _ _ _ _ h1 h3 (okP_tell h2 _ _ _ _), gen_times h2 _, ?_⟩
    rw [List.getLast?_append]
    rfl
theorem innerS_chain (L ds : List (List UInt64)) : ∀ k, innerS (chainF L ds k).1 = (List.range k).map fun i => baseP ((L.getD i []).getD 2 0)
  | 0 => rfl
  | k + 1 => by
    rw [chainF, List.range_succ, List.map_append, ← innerS_chain L ds k]
    unfold innerS
    rw [List.map_append]
    rfl
theorem addN_nat (a b : UInt64) : (addN a b).toNat = (a.toNat + b.toNat) % gN := by
  have h1 := redN_lt a
  have h2 := redN_lt b
  have h3 : (redN a + redN b).toNat = (redN a).toNat + (redN b).toNat := by
    rw [u64_add]
    unfold gN at *
    omega
  unfold addN
  rw [redN_nat, h3, redN_nat, redN_nat, ← Nat.add_mod]
theorem base_add (a b : UInt64) : mulP (baseP a) (baseP b) = baseP (addN a b) := by
  unfold baseP
  rw [timesP_gen gen37, timesP_gen gen37, timesP_gen gen37]
  apply u64_eq
  rw [mulP_nat, powP_nat, powP_nat, powP_nat, ← Nat.mul_mod, ← Nat.pow_add]
  exact pow_congr gen37 (by rw [addN_nat, Nat.mod_mod])
theorem base_zero : baseP 0 = 1 := by
  unfold baseP
  rw [timesP_gen gen37]
  apply u64_eq
  rw [powP_nat]
  rfl
theorem prod_bases : ∀ (l : List UInt64) (a : UInt64), prodP (l.map baseP) (baseP a) = baseP (l.foldl addN a)
  | [], a => rfl
  | z :: l, a => by
    show (bif inG (baseP z) then prodP (l.map baseP) (mulP (baseP a) (baseP z)) else 0) = _
    rw [show inG (baseP z) = true from gen_in (gen_times gen37 z), base_add]
    exact prod_bases l _
theorem range_get (L : List (List UInt64)) : (List.range L.length).map (fun i => (L.getD i []).getD 2 0) = L.map fun s => s.getD 2 0 := by
  apply List.ext_getElem?
  intro i
  rw [List.getElem?_map, List.getElem?_map]
  rcases Nat.lt_or_ge i L.length with h | h
  · rw [List.getElem?_range h, Option.map_some, getDs (List.getElem?_eq_getElem h), List.getElem?_eq_getElem h]; rfl
  · rw [List.getElem?_eq_none (by rw [List.length_range]; exact h), List.getElem?_eq_none h]; rfl
/-- The product of what a chain tells of the inner keys. -/
theorem inner_prod (L ds : List (List UInt64)) : prodP (innerS (chainF L ds L.length).1) 1 = baseP ((L.map fun s => s.getD 2 0).foldl addN 0) := by
  rw [innerS_chain, ← range_get, ← prod_bases, base_zero, List.map_map]
  rfl

end Go.Proofs.YtdaphjnenookiaaDoor
