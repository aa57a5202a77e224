/- What the arithmetic by the two moduli computes. -/
import Derived.Test.YtdaphjnenookiaaDoorProg
import Derived.Test.YtdaphjnenookiaaDoorNm
import Derived.Test.YtdaphjnenookiaaDoorwords
import Derived.Test.YtdaphjnenookiaaDoorsha
import Derived.Test.YtdaphjnenookiaaDoorrsha
namespace Go.Proofs.YtdaphjnenookiaaDoor
open Go Go.RowKit Go.Proofs
set_option linter.unusedVariables false
set_option linter.unusedSimpArgs false
set_option maxRecDepth 4000


/-- The modulus of the group. -/
def gP : Nat := 2305843009213693951
/-- How many exponents there are. -/
def gN : Nat := 2305843009213693950
theorem u64_shr (x : UInt64) (k : Nat) (hk : k < 64) : (x >>> UInt64.ofNat k).toNat = x.toNat / 2 ^ k := by
  rw [UInt64.toNat_shiftRight, UInt64.toNat_ofNat', Nat.mod_eq_of_lt (show k < 2 ^ 64 from Nat.lt_of_lt_of_le hk (by decide)), Nat.mod_eq_of_lt hk, Nat.shiftRight_eq_div_pow]
theorem u64_shl (x : UInt64) (k : Nat) (hk : k < 64) : (x <<< UInt64.ofNat k).toNat = x.toNat * 2 ^ k % 2 ^ 64 := by
  rw [UInt64.toNat_shiftLeft, UInt64.toNat_ofNat', Nat.mod_eq_of_lt (show k < 2 ^ 64 from Nat.lt_of_lt_of_le hk (by decide)), Nat.mod_eq_of_lt hk, Nat.shiftLeft_eq]
theorem u64_and61 (x : UInt64) : (x &&& 2305843009213693951).toNat = x.toNat % 2305843009213693952 := by
  rw [UInt64.toNat_and]
  exact Nat.and_two_pow_sub_one_eq_mod x.toNat 61
theorem u64_and32 (x : UInt64) : (x &&& 4294967295).toNat = x.toNat % 4294967296 := by
  rw [UInt64.toNat_and]
  exact Nat.and_two_pow_sub_one_eq_mod x.toNat 32
theorem u64_or {x y : UInt64} (k : Nat) (h1 : x.toNat % 2 ^ k = 0) (h2 : y.toNat < 2 ^ k) : (x ||| y).toNat = x.toNat + y.toNat := by
  rw [UInt64.toNat_or]
  have h3 : x.toNat = 2 ^ k * (x.toNat / 2 ^ k) := by
    have := Nat.div_add_mod x.toNat (2 ^ k)
    omega
  rw [h3, Nat.two_pow_add_eq_or_of_lt h2]
theorem u64_eq {x y : UInt64} (h : x.toNat = y.toNat) : x = y := UInt64.toNat_inj.1 h
theorem u64_ofNat {n : Nat} (h : n < 18446744073709551616) : (UInt64.ofNat n).toNat = n := by
  rw [UInt64.toNat_ofNat']
  exact Nat.mod_eq_of_lt h
theorem u64_lt (x : UInt64) : x.toNat < 18446744073709551616 := x.toNat_lt
theorem u64_add (x y : UInt64) : (x + y).toNat = (x.toNat + y.toNat) % 18446744073709551616 := UInt64.toNat_add x y
theorem u64_sub (x y : UInt64) : (x - y).toNat = (18446744073709551616 - y.toNat + x.toNat) % 18446744073709551616 := UInt64.toNat_sub x y
theorem u64_mul (x y : UInt64) : (x * y).toNat = (x.toNat * y.toNat) % 18446744073709551616 := UInt64.toNat_mul x y
theorem u64_mod (x y : UInt64) : (x % y).toNat = x.toNat % y.toNat := UInt64.toNat_mod x y
theorem u64_div (x y : UInt64) : (x / y).toNat = x.toNat / y.toNat := UInt64.toNat_div x y
theorem half (x : UInt64) : x.toNat = x.toNat / 4294967296 * 4294967296 + x.toNat % 4294967296 ∧ x.toNat / 4294967296 ≤ 4294967295 ∧ x.toNat % 4294967296 ≤ 4294967295 := by
  have := u64_lt x
  omega
theorem halves (a1 a0 b1 b0 : Nat) : (a1 * 4294967296 + a0) * (b1 * 4294967296 + b0) = a1 * b1 * 18446744073709551616 + (a1 * b0 + a0 * b1) * 4294967296 + a0 * b0 := by
  rw [Nat.add_mul, Nat.mul_add, Nat.mul_add, Nat.add_mul]
  have e1 : a1 * 4294967296 * (b1 * 4294967296) = a1 * b1 * 18446744073709551616 := by
    rw [Nat.mul_mul_mul_comm]
  have e2 : a1 * 4294967296 * b0 = a1 * b0 * 4294967296 := Nat.mul_right_comm _ _ _
  have e3 : a0 * (b1 * 4294967296) = a0 * b1 * 4294967296 := (Nat.mul_assoc _ _ _).symm
  rw [e1, e2, e3]
  omega
theorem half_le {a b : Nat} (ha : a ≤ 4294967295) (hb : b ≤ 4294967295) : a * b ≤ 18446744065119617025 := Nat.mul_le_mul ha hb
/-- The upper half of a product. -/
def mulHi (x y : UInt64) : UInt64 := UInt64.ofNat (x.toNat * y.toNat / 18446744073709551616)
theorem mulHi_nat (x y : UInt64) : (mulHi x y).toNat = x.toNat * y.toNat / 18446744073709551616 := by
  apply u64_ofNat
  have h1 := u64_lt x
  have h2 := u64_lt y
  have : x.toNat * y.toNat ≤ 18446744073709551615 * 18446744073709551615 := Nat.mul_le_mul (by omega) (by omega)
  omega
theorem mul64_hi (x y : UInt64) : (x >>> UInt64.ofNat 32) * (y >>> UInt64.ofNat 32) + (((x >>> UInt64.ofNat 32) * (y &&& 4294967295) + ((x &&& 4294967295) * (y &&& 4294967295)) >>> UInt64.ofNat 32) >>> UInt64.ofNat 32) + ((((x >>> UInt64.ofNat 32) * (y &&& 4294967295) + ((x &&& 4294967295) * (y &&& 4294967295)) >>> UInt64.ofNat 32) &&& 4294967295) + (x &&& 4294967295) * (y >>> UInt64.ofNat 32)) >>> UInt64.ofNat 32 = mulHi x y := by
  apply u64_eq
  rw [mulHi_nat]
  obtain ⟨hx, hx1, hx0⟩ := half x
  obtain ⟨hy, hy1, hy0⟩ := half y
  conv => rhs; rw [hx, hy, halves]
  simp only [u64_add, u64_mul, u64_and32, u64_shr _ 32 (by decide)]
  have e : (2 : Nat) ^ 32 = 4294967296 := rfl
  rw [e]
  have p11 := half_le hx1 hy1
  have p10 := half_le hx1 hy0
  have p01 := half_le hx0 hy1
  have p00 := half_le hx0 hy0
  generalize x.toNat / 4294967296 * (y.toNat / 4294967296) = a at *
  generalize x.toNat / 4294967296 * (y.toNat % 4294967296) = b at *
  generalize x.toNat % 4294967296 * (y.toNat / 4294967296) = c at *
  generalize x.toNat % 4294967296 * (y.toNat % 4294967296) = d at *
  clear hx hx1 hx0 hy hy1 hy0
  omega
/-- The wide product's upper half, as the second text reckons it. -/
theorem wide_hi (x y : UInt64) : (x >>> UInt64.ofNat 32) * (y >>> UInt64.ofNat 32) + ((x >>> UInt64.ofNat 32) * (y &&& 4294967295)) >>> UInt64.ofNat 32 + ((x &&& 4294967295) * (y >>> UInt64.ofNat 32)) >>> UInt64.ofNat 32 + (((x &&& 4294967295) * (y &&& 4294967295)) >>> UInt64.ofNat 32 + ((x >>> UInt64.ofNat 32) * (y &&& 4294967295) &&& 4294967295) + ((x &&& 4294967295) * (y >>> UInt64.ofNat 32) &&& 4294967295)) >>> UInt64.ofNat 32 = mulHi x y := by
  apply u64_eq
  rw [mulHi_nat]
  obtain ⟨hx, hx1, hx0⟩ := half x
  obtain ⟨hy, hy1, hy0⟩ := half y
  conv => rhs; rw [hx, hy, halves]
  simp only [u64_add, u64_mul, u64_and32, u64_shr _ 32 (by decide)]
  have e : (2 : Nat) ^ 32 = 4294967296 := rfl
  rw [e]
  have p11 := half_le hx1 hy1
  have p10 := half_le hx1 hy0
  have p01 := half_le hx0 hy1
  have p00 := half_le hx0 hy0
  generalize x.toNat / 4294967296 * (y.toNat / 4294967296) = a at *
  generalize x.toNat / 4294967296 * (y.toNat % 4294967296) = b at *
  generalize x.toNat % 4294967296 * (y.toNat / 4294967296) = c at *
  generalize x.toNat % 4294967296 * (y.toNat % 4294967296) = d at *
  clear hx hx1 hx0 hy hy1 hy0
  omega
theorem wide_lo (x y : UInt64) : ((((x &&& 4294967295) * (y &&& 4294967295)) >>> UInt64.ofNat 32 + ((x >>> UInt64.ofNat 32) * (y &&& 4294967295) &&& 4294967295) + ((x &&& 4294967295) * (y >>> UInt64.ofNat 32) &&& 4294967295)) <<< UInt64.ofNat 32) ||| ((x &&& 4294967295) * (y &&& 4294967295) &&& 4294967295) = x * y := by
  apply u64_eq
  rw [u64_or 32 (by rw [u64_shl _ 32 (by decide)]; omega) (by rw [u64_and32]; omega)]
  obtain ⟨hx, hx1, hx0⟩ := half x
  obtain ⟨hy, hy1, hy0⟩ := half y
  rw [u64_mul x y]
  conv => rhs; rw [hx, hy, halves]
  simp only [u64_add, u64_mul, u64_and32, u64_shr _ 32 (by decide), u64_shl _ 32 (by decide)]
  have e : (2 : Nat) ^ 32 = 4294967296 := rfl
  have e2 : (2 : Nat) ^ 64 = 18446744073709551616 := rfl
  rw [e, e2]
  have p11 := half_le hx1 hy1
  have p10 := half_le hx1 hy0
  have p01 := half_le hx0 hy1
  have p00 := half_le hx0 hy0
  generalize x.toNat / 4294967296 * (y.toNat / 4294967296) = a at *
  generalize x.toNat / 4294967296 * (y.toNat % 4294967296) = b at *
  generalize x.toNat % 4294967296 * (y.toNat / 4294967296) = c at *
  generalize x.toNat % 4294967296 * (y.toNat % 4294967296) = d at *
  clear hx hx1 hx0 hy hy1 hy0
  omega
/-- A number less the modulus, as often as it goes. -/
def redP (x : UInt64) : UInt64 := x % 2305843009213693951
def redN (x : UInt64) : UInt64 := x % 2305843009213693950
theorem redP_nat (x : UInt64) : (redP x).toNat = x.toNat % gP := u64_mod x _
theorem redN_nat (x : UInt64) : (redN x).toNat = x.toNat % gN := u64_mod x _
theorem redP_lt (x : UInt64) : (redP x).toNat < gP := by rw [redP_nat]; exact Nat.mod_lt _ (by decide)
theorem redN_lt (x : UInt64) : (redN x).toNat < gN := by rw [redN_nat]; exact Nat.mod_lt _ (by decide)
theorem foldP (h m : Nat) : (2305843009213693952 * h + m) % gP = (h + m) % gP := by
  rw [show 2305843009213693952 * h + m = h + m + gP * h from by unfold gP; omega, Nat.add_mul_mod_self_left]
theorem foldN (h m : Nat) : (2305843009213693952 * h + m) % gN = (2 * h + m) % gN := by
  rw [show 2305843009213693952 * h + m = 2 * h + m + gN * h from by unfold gN; omega, Nat.add_mul_mod_self_left]
theorem split61 (n : Nat) : n = 2305843009213693952 * (n / 2 ^ 61) + n % 2305843009213693952 := by omega
theorem split64 (p q : Nat) : p * 18446744073709551616 + q = 2305843009213693952 * (p * 8 + q / 2 ^ 61) + q % 2305843009213693952 := by omega
theorem redP_hi {x : UInt64} (h : 2305843009213693951 ≤ x >>> UInt64.ofNat 61 + (x &&& 2305843009213693951)) : x >>> UInt64.ofNat 61 + (x &&& 2305843009213693951) - 2305843009213693951 = redP x := by
  apply u64_eq
  rw [UInt64.le_iff_toNat_le, u64_add, u64_shr _ 61 (by decide), u64_and61] at h
  rw [redP_nat, u64_sub, u64_add, u64_shr _ 61 (by decide), u64_and61]
  replace h : 2305843009213693951 ≤ (x.toNat / 2 ^ 61 + x.toNat % 2305843009213693952) % 18446744073709551616 := h
  have := u64_lt x
  conv => rhs; rw [split61 x.toNat, foldP]
  have h4 : x.toNat / 2 ^ 61 + x.toNat % 2305843009213693952 < 2305843009213693960 := by omega
  generalize x.toNat / 2 ^ 61 + x.toNat % 2305843009213693952 = y at *
  show (18446744073709551616 - 2305843009213693951 + _) % _ = _
  have h3 : y < 2 * gP := by unfold gP; omega
  unfold gP at *
  omega
theorem redP_lo {x : UInt64} (h : ¬ 2305843009213693951 ≤ x >>> UInt64.ofNat 61 + (x &&& 2305843009213693951)) : x >>> UInt64.ofNat 61 + (x &&& 2305843009213693951) = redP x := by
  apply u64_eq
  rw [UInt64.le_iff_toNat_le, u64_add, u64_shr _ 61 (by decide), u64_and61] at h
  rw [redP_nat, u64_add, u64_shr _ 61 (by decide), u64_and61]
  replace h : ¬ 2305843009213693951 ≤ (x.toNat / 2 ^ 61 + x.toNat % 2305843009213693952) % 18446744073709551616 := h
  have := u64_lt x
  conv => rhs; rw [split61 x.toNat, foldP]
  have h4 : x.toNat / 2 ^ 61 + x.toNat % 2305843009213693952 < 2305843009213693960 := by omega
  generalize x.toNat / 2 ^ 61 + x.toNat % 2305843009213693952 = y at *
  unfold gP
  omega
def addN (a b : UInt64) : UInt64 := redN (redN a + redN b)
def subN (a b : UInt64) : UInt64 := redN (redN a + 2305843009213693950 - redN b)
def mulN (a b : UInt64) : UInt64 := UInt64.ofNat (a.toNat * b.toNat % gN)
def mulP (a b : UInt64) : UInt64 := UInt64.ofNat (a.toNat * b.toNat % gP)
theorem mulN_nat (a b : UInt64) : (mulN a b).toNat = a.toNat * b.toNat % gN := u64_ofNat (Nat.lt_of_lt_of_le (Nat.mod_lt _ (by decide)) (by decide))
theorem mulP_nat (a b : UInt64) : (mulP a b).toNat = a.toNat * b.toNat % gP := u64_ofNat (Nat.lt_of_lt_of_le (Nat.mod_lt _ (by decide)) (by decide))
theorem prod_wide {a b : UInt64} {m : Nat} (hm : m ≤ 2305843009213693952) (ha : a.toNat < m) (hb : b.toNat < m) : (mulHi a b).toNat * 18446744073709551616 + (a * b).toNat = a.toNat * b.toNat ∧ (mulHi a b).toNat < 288230376151711744 := by
  rw [mulHi_nat, u64_mul]
  have : a.toNat * b.toNat ≤ 2305843009213693951 * 2305843009213693951 := Nat.mul_le_mul (by omega) (by omega)
  omega
theorem mulP_prog (a b : UInt64) : redP (mulHi (redP a) (redP b) <<< UInt64.ofNat 3 + (redP a * redP b) >>> UInt64.ofNat 61 + (redP a * redP b &&& 2305843009213693951)) = mulP a b := by
  apply u64_eq
  have h1 := prod_wide (a := redP a) (b := redP b) (m := gP) (by decide) (redP_lt a) (redP_lt b)
  have h2 := u64_lt (redP a * redP b)
  rw [mulP_nat, redP_nat, Nat.mul_mod, ← redP_nat a, ← redP_nat b, ← h1.1]
  simp only [u64_add, u64_shr _ 61 (by decide), u64_shl _ 3 (by decide), u64_and61]
  generalize (mulHi (redP a) (redP b)).toNat = p at *
  generalize (redP a * redP b).toNat = q at *
  rw [split64, foldP]
  congr 1
  omega
theorem mulP_ref (a b : UInt64) : (mulHi (redP a) (redP b) <<< UInt64.ofNat 3 ||| (redP a * redP b) >>> UInt64.ofNat 61) + (redP a * redP b &&& 2305843009213693951) = mulHi (redP a) (redP b) <<< UInt64.ofNat 3 + (redP a * redP b) >>> UInt64.ofNat 61 + (redP a * redP b &&& 2305843009213693951) := by
  have h2 := u64_lt (redP a * redP b)
  congr 1
  apply u64_eq
  have h1 := prod_wide (a := redP a) (b := redP b) (m := gP) (by decide) (redP_lt a) (redP_lt b)
  rw [u64_or 3 (by rw [u64_shl _ 3 (by decide)]; omega) (by rw [u64_shr _ 61 (by decide)]; omega), u64_add, u64_shr _ 61 (by decide), u64_shl _ 3 (by decide)]
  omega
theorem mulN_ref (a b : UInt64) : redN (2 * (mulHi (redN a) (redN b) <<< UInt64.ofNat 3 ||| (redN a * redN b) >>> UInt64.ofNat 61) + (redN a * redN b &&& 2305843009213693951)) = mulN a b := by
  apply u64_eq
  have h1 := prod_wide (a := redN a) (b := redN b) (m := gN) (by decide) (redN_lt a) (redN_lt b)
  have h2 := u64_lt (redN a * redN b)
  rw [mulN_nat, redN_nat, Nat.mul_mod, ← redN_nat a, ← redN_nat b, ← h1.1, u64_add, u64_mul, u64_or 3 (by rw [u64_shl _ 3 (by decide)]; omega) (by rw [u64_shr _ 61 (by decide)]; omega), u64_shr _ 61 (by decide), u64_shl _ 3 (by decide), u64_and61]
  generalize (mulHi (redN a) (redN b)).toNat = p at *
  generalize (redN a * redN b).toNat = q at *
  rw [split64, foldN]
  show ((2 * _) % _ + _) % _ % _ = _
  congr 1
  omega
/-- What is left of a wide number. -/
def remN (hi lo : UInt64) : UInt64 := UInt64.ofNat ((hi.toNat * 18446744073709551616 + lo.toNat) % gN)
theorem remN_nat (hi lo : UInt64) : (remN hi lo).toNat = (hi.toNat * 18446744073709551616 + lo.toNat) % gN := u64_ofNat (Nat.lt_of_lt_of_le (Nat.mod_lt _ (by decide)) (by decide))
theorem mulN_prog (a b : UInt64) : remN (mulHi (redN a) (redN b)) (redN a * redN b) = mulN a b := by
  apply u64_eq
  have h1 := prod_wide (a := redN a) (b := redN b) (m := gN) (by decide) (redN_lt a) (redN_lt b)
  rw [mulN_nat, remN_nat, h1.1, redN_nat, redN_nat, ← Nat.mul_mod]
theorem remN_red (hi lo : UInt64) : remN (redN hi) lo = remN hi lo := by
  apply u64_eq
  rw [remN_nat, remN_nat, redN_nat]
  unfold gN
  omega


theorem scalar_Reduce_ok {w : World} (x : UInt64) :
    Calls Pr N_scalar_Reduce #[u64v x] w fun e w' => e = .returned (u64v (redN x)) ∧ w = w' := by
  refine calls (args := [u64v x]) fn_scalar_Reduce rfl rfl rfl rfl ?_
  refine C_seq ?_
  refine C_region ?_
  refine s_v (y_assign (v := u64v 0) rfl) ?_
  refine G_nil ?_
  refine C_seq ?_
  refine C_region ?_
  refine s_v (y_move rfl) ?_
  refine s_v (y_bin rfl rfl (fun _ => v_rem64 _ 2305843009213693950 (by decide))) ?_
  refine s_v (y_assign rfl) ?_
  refine G_nil ?_
  refine C_ret ?_
  exact ⟨_, (.tmp rfl .nil), rfl, rfl⟩

theorem scalar_Add_ok {w : World} (a b : UInt64) :
    Calls Pr N_scalar_Add #[u64v a, u64v b] w fun e w' => e = .returned (u64v (addN a b)) ∧ w = w' := by
  refine calls (args := [u64v a, u64v b]) fn_scalar_Add rfl rfl rfl rfl ?_
  refine C_seq ?_
  refine C_region ?_
  refine s_v (y_assign (v := u64v 0) rfl) ?_
  refine G_nil ?_
  refine C_seq ?_
  refine C_region ?_
  refine s_v (y_move rfl) ?_
  refine s_call rfl cl_scalar_Reduce (scalar_Reduce_ok _) ?_
  rintro _ _ ⟨rfl, rfl⟩
  refine ⟨_, rfl, ?_⟩
  refine s_v (y_move rfl) ?_
  refine s_call rfl cl_scalar_Reduce (scalar_Reduce_ok _) ?_
  rintro _ _ ⟨rfl, rfl⟩
  refine ⟨_, rfl, ?_⟩
  refine s_v (y_bin rfl rfl (fun _ => v_add64 _ _)) ?_
  refine s_call rfl cl_scalar_Reduce (scalar_Reduce_ok _) ?_
  rintro _ _ ⟨rfl, rfl⟩
  refine ⟨_, rfl, ?_⟩
  refine s_v (y_assign rfl) ?_
  refine G_nil ?_
  refine C_ret ?_
  exact ⟨_, (.tmp rfl .nil), rfl, rfl⟩

theorem scalar_Sub_ok {w : World} (a b : UInt64) :
    Calls Pr N_scalar_Sub #[u64v a, u64v b] w fun e w' => e = .returned (u64v (subN a b)) ∧ w = w' := by
  refine calls (args := [u64v a, u64v b]) fn_scalar_Sub rfl rfl rfl rfl ?_
  refine C_seq ?_
  refine C_region ?_
  refine s_v (y_assign (v := u64v 0) rfl) ?_
  refine G_nil ?_
  refine C_seq ?_
  refine C_region ?_
  refine s_v (y_move rfl) ?_
  refine s_call rfl cl_scalar_Reduce (scalar_Reduce_ok _) ?_
  rintro _ _ ⟨rfl, rfl⟩
  refine ⟨_, rfl, ?_⟩
  refine s_v (y_bin rfl rfl (fun _ => v_add64 _ 2305843009213693950)) ?_
  refine s_v (y_move rfl) ?_
  refine s_call rfl cl_scalar_Reduce (scalar_Reduce_ok _) ?_
  rintro _ _ ⟨rfl, rfl⟩
  refine ⟨_, rfl, ?_⟩
  refine s_v (y_bin rfl rfl (fun _ => v_sub64 _ _)) ?_
  refine s_call rfl cl_scalar_Reduce (scalar_Reduce_ok _) ?_
  rintro _ _ ⟨rfl, rfl⟩
  refine ⟨_, rfl, ?_⟩
  refine s_v (y_assign rfl) ?_
  refine G_nil ?_
  refine C_ret ?_
  exact ⟨_, (.tmp rfl .nil), rfl, rfl⟩

theorem ref1_AddN_ok {w : World} (a b : UInt64) :
    Calls Pr N_ref1_AddN #[u64v a, u64v b] w fun e w' => e = .returned (u64v (addN a b)) ∧ w = w' := by
  refine calls (args := [u64v a, u64v b]) fn_ref1_AddN rfl rfl rfl rfl ?_
  refine C_seq ?_
  refine C_region ?_
  refine s_v (y_assign (v := u64v 0) rfl) ?_
  refine G_nil ?_
  refine C_seq ?_
  refine C_region ?_
  refine s_v (y_move rfl) ?_
  refine s_v (y_bin rfl rfl (fun _ => v_rem64 _ 2305843009213693950 (by decide))) ?_
  refine s_v (y_move rfl) ?_
  refine s_v (y_bin rfl rfl (fun _ => v_rem64 _ 2305843009213693950 (by decide))) ?_
  refine s_v (y_bin rfl rfl (fun _ => v_add64 _ _)) ?_
  refine s_v (y_bin rfl rfl (fun _ => v_rem64 _ 2305843009213693950 (by decide))) ?_
  refine s_v (y_assign rfl) ?_
  refine G_nil ?_
  refine C_ret ?_
  exact ⟨_, (.tmp rfl .nil), rfl, rfl⟩

theorem ref1_SubN_ok {w : World} (a b : UInt64) :
    Calls Pr N_ref1_SubN #[u64v a, u64v b] w fun e w' => e = .returned (u64v (subN a b)) ∧ w = w' := by
  refine calls (args := [u64v a, u64v b]) fn_ref1_SubN rfl rfl rfl rfl ?_
  refine C_seq ?_
  refine C_region ?_
  refine s_v (y_assign (v := u64v 0) rfl) ?_
  refine G_nil ?_
  refine C_seq ?_
  refine C_region ?_
  refine s_v (y_move rfl) ?_
  refine s_v (y_bin rfl rfl (fun _ => v_rem64 _ 2305843009213693950 (by decide))) ?_
  refine s_v (y_bin rfl rfl (fun _ => v_add64 _ 2305843009213693950)) ?_
  refine s_v (y_move rfl) ?_
  refine s_v (y_bin rfl rfl (fun _ => v_rem64 _ 2305843009213693950 (by decide))) ?_
  refine s_v (y_bin rfl rfl (fun _ => v_sub64 _ _)) ?_
  refine s_v (y_bin rfl rfl (fun _ => v_rem64 _ 2305843009213693950 (by decide))) ?_
  refine s_v (y_assign rfl) ?_
  refine G_nil ?_
  refine C_ret ?_
  exact ⟨_, (.tmp rfl .nil), rfl, rfl⟩

theorem math_bits_Mul64_ok {w : World} (a b : UInt64) :
    Calls Pr N_math_bits_Mul64 #[u64v a, u64v b] w fun e w' => e = .returned (.tuple #[u64v (mulHi a b), u64v (a * b)]) ∧ w = w' := by
  refine calls (args := [u64v a, u64v b]) fn_math_bits_Mul64 rfl rfl rfl rfl ?_
  refine C_seq ?_
  refine C_region ?_
  refine s_v (y_assign (v := u64v 0) rfl) ?_
  refine s_v (y_assign (v := u64v 0) rfl) ?_
  refine G_nil ?_
  refine C_seq ?_
  refine C_region ?_
  refine s_v (y_move rfl) ?_
  refine s_v (y_bin rfl rfl (fun _ => v_and64 _ 4294967295)) ?_
  refine s_v (y_assign rfl) ?_
  refine G_nil ?_
  refine C_seq ?_
  refine C_region ?_
  refine s_v (y_move rfl) ?_
  refine s_v (y_bin rfl rfl (fun _ => v_shr64 _ 32 (by decide))) ?_
  refine s_v (y_assign rfl) ?_
  refine G_nil ?_
  refine C_seq ?_
  refine C_region ?_
  refine s_v (y_move rfl) ?_
  refine s_v (y_bin rfl rfl (fun _ => v_and64 _ 4294967295)) ?_
  refine s_v (y_assign rfl) ?_
  refine G_nil ?_
  refine C_seq ?_
  refine C_region ?_
  refine s_v (y_move rfl) ?_
  refine s_v (y_bin rfl rfl (fun _ => v_shr64 _ 32 (by decide))) ?_
  refine s_v (y_assign rfl) ?_
  refine G_nil ?_
  refine C_seq ?_
  refine C_region ?_
  refine s_v (y_move rfl) ?_
  refine s_v (y_move rfl) ?_
  refine s_v (y_bin rfl rfl (fun _ => v_mul64 _ _)) ?_
  refine s_v (y_assign rfl) ?_
  refine G_nil ?_
  refine C_seq ?_
  refine C_region ?_
  refine s_v (y_move rfl) ?_
  refine s_v (y_move rfl) ?_
  refine s_v (y_bin rfl rfl (fun _ => v_mul64 _ _)) ?_
  refine s_v (y_move rfl) ?_
  refine s_v (y_bin rfl rfl (fun _ => v_shr64 _ 32 (by decide))) ?_
  refine s_v (y_bin rfl rfl (fun _ => v_add64 _ _)) ?_
  refine s_v (y_assign rfl) ?_
  refine G_nil ?_
  refine C_seq ?_
  refine C_region ?_
  refine s_v (y_move rfl) ?_
  refine s_v (y_bin rfl rfl (fun _ => v_and64 _ 4294967295)) ?_
  refine s_v (y_assign rfl) ?_
  refine G_nil ?_
  refine C_seq ?_
  refine C_region ?_
  refine s_v (y_move rfl) ?_
  refine s_v (y_bin rfl rfl (fun _ => v_shr64 _ 32 (by decide))) ?_
  refine s_v (y_assign rfl) ?_
  refine G_nil ?_
  refine C_seq ?_
  refine C_region ?_
  refine s_v (y_move rfl) ?_
  refine s_v (y_move rfl) ?_
  refine s_v (y_move rfl) ?_
  refine s_v (y_bin rfl rfl (fun _ => v_mul64 _ _)) ?_
  refine s_v (y_bin rfl rfl (fun _ => v_add64 _ _)) ?_
  refine s_v (y_assign rfl) ?_
  refine G_nil ?_
  refine C_seq ?_
  refine C_region ?_
  refine s_v (y_move rfl) ?_
  refine s_v (y_move rfl) ?_
  refine s_v (y_bin rfl rfl (fun _ => v_mul64 _ _)) ?_
  refine s_v (y_move rfl) ?_
  refine s_v (y_bin rfl rfl (fun _ => v_add64 _ _)) ?_
  refine s_v (y_move rfl) ?_
  refine s_v (y_bin rfl rfl (fun _ => v_shr64 _ 32 (by decide))) ?_
  refine s_v (y_bin rfl rfl (fun _ => v_add64 _ _)) ?_
  refine s_v (y_assign rfl) ?_
  refine G_nil ?_
  refine C_seq ?_
  refine C_region ?_
  refine s_v (y_move rfl) ?_
  refine s_v (y_move rfl) ?_
  refine s_v (y_bin rfl rfl (fun _ => v_mul64 _ _)) ?_
  refine s_v (y_assign rfl) ?_
  refine G_nil ?_
  refine C_ret ?_
  refine ⟨_, (.tmp rfl (.tmp rfl .nil)), ?_, rfl⟩
  rw [mul64_hi]
  rfl

theorem ref1_wide_ok {w : World} (a b : UInt64) :
    Calls Pr N_ref1_wide #[u64v a, u64v b] w fun e w' => e = .returned (.tuple #[u64v (mulHi a b), u64v (a * b)]) ∧ w = w' := by
  refine calls (args := [u64v a, u64v b]) fn_ref1_wide rfl rfl rfl rfl ?_
  refine C_seq ?_
  refine C_region ?_
  refine s_v (y_assign (v := u64v 0) rfl) ?_
  refine s_v (y_assign (v := u64v 0) rfl) ?_
  refine G_nil ?_
  refine C_seq ?_
  refine C_region ?_
  refine s_v (y_assign (v := u64v 4294967295) rfl) ?_
  refine G_nil ?_
  refine C_seq ?_
  refine C_region ?_
  refine s_v (y_move rfl) ?_
  refine s_v (y_move rfl) ?_
  refine s_v (y_bin rfl rfl (fun _ => v_and64 _ _)) ?_
  refine s_v (y_move rfl) ?_
  refine s_v (y_move rfl) ?_
  refine s_v (y_bin rfl rfl (fun _ => v_and64 _ _)) ?_
  refine s_v (y_bin rfl rfl (fun _ => v_mul64 _ _)) ?_
  refine s_v (y_assign rfl) ?_
  refine G_nil ?_
  refine C_seq ?_
  refine C_region ?_
  refine s_v (y_move rfl) ?_
  refine s_v (y_bin rfl rfl (fun _ => v_shr64 _ 32 (by decide))) ?_
  refine s_v (y_move rfl) ?_
  refine s_v (y_move rfl) ?_
  refine s_v (y_bin rfl rfl (fun _ => v_and64 _ _)) ?_
  refine s_v (y_bin rfl rfl (fun _ => v_mul64 _ _)) ?_
  refine s_v (y_assign rfl) ?_
  refine G_nil ?_
  refine C_seq ?_
  refine C_region ?_
  refine s_v (y_move rfl) ?_
  refine s_v (y_move rfl) ?_
  refine s_v (y_bin rfl rfl (fun _ => v_and64 _ _)) ?_
  refine s_v (y_move rfl) ?_
  refine s_v (y_bin rfl rfl (fun _ => v_shr64 _ 32 (by decide))) ?_
  refine s_v (y_bin rfl rfl (fun _ => v_mul64 _ _)) ?_
  refine s_v (y_assign rfl) ?_
  refine G_nil ?_
  refine C_seq ?_
  refine C_region ?_
  refine s_v (y_move rfl) ?_
  refine s_v (y_bin rfl rfl (fun _ => v_shr64 _ 32 (by decide))) ?_
  refine s_v (y_move rfl) ?_
  refine s_v (y_move rfl) ?_
  refine s_v (y_bin rfl rfl (fun _ => v_and64 _ _)) ?_
  refine s_v (y_bin rfl rfl (fun _ => v_add64 _ _)) ?_
  refine s_v (y_move rfl) ?_
  refine s_v (y_move rfl) ?_
  refine s_v (y_bin rfl rfl (fun _ => v_and64 _ _)) ?_
  refine s_v (y_bin rfl rfl (fun _ => v_add64 _ _)) ?_
  refine s_v (y_assign rfl) ?_
  refine G_nil ?_
  refine C_seq ?_
  refine C_region ?_
  refine s_v (y_move rfl) ?_
  refine s_v (y_bin rfl rfl (fun _ => v_shr64 _ 32 (by decide))) ?_
  refine s_v (y_move rfl) ?_
  refine s_v (y_bin rfl rfl (fun _ => v_shr64 _ 32 (by decide))) ?_
  refine s_v (y_bin rfl rfl (fun _ => v_mul64 _ _)) ?_
  refine s_v (y_move rfl) ?_
  refine s_v (y_bin rfl rfl (fun _ => v_shr64 _ 32 (by decide))) ?_
  refine s_v (y_bin rfl rfl (fun _ => v_add64 _ _)) ?_
  refine s_v (y_move rfl) ?_
  refine s_v (y_bin rfl rfl (fun _ => v_shr64 _ 32 (by decide))) ?_
  refine s_v (y_bin rfl rfl (fun _ => v_add64 _ _)) ?_
  refine s_v (y_move rfl) ?_
  refine s_v (y_bin rfl rfl (fun _ => v_shr64 _ 32 (by decide))) ?_
  refine s_v (y_bin rfl rfl (fun _ => v_add64 _ _)) ?_
  refine s_v (y_move rfl) ?_
  refine s_v (y_bin rfl rfl (fun _ => v_shl64 _ 32 (by decide))) ?_
  refine s_v (y_move rfl) ?_
  refine s_v (y_move rfl) ?_
  refine s_v (y_bin rfl rfl (fun _ => v_and64 _ _)) ?_
  refine s_v (y_bin rfl rfl (fun _ => v_or64 _ _)) ?_
  refine s_v (y_assign rfl) ?_
  refine s_v (y_assign rfl) ?_
  refine G_nil ?_
  refine C_ret ?_
  refine ⟨_, (.tmp rfl (.tmp rfl .nil)), ?_, rfl⟩
  rw [wide_hi, wide_lo]
  rfl

theorem modp_Reduce_ok {w : World} (x : UInt64) :
    Calls Pr N_modp_Reduce #[u64v x] w fun e w' => e = .returned (u64v (redP x)) ∧ w = w' := by
  refine calls (args := [u64v x]) fn_modp_Reduce rfl rfl rfl rfl ?_
  refine C_seq ?_
  refine C_region ?_
  refine s_v (y_assign (v := u64v 0) rfl) ?_
  refine G_nil ?_
  refine C_seq ?_
  refine C_region ?_
  refine s_v (y_move rfl) ?_
  refine s_v (y_bin rfl rfl (fun _ => v_shr64 _ 61 (by decide))) ?_
  refine s_v (y_move rfl) ?_
  refine s_v (y_bin rfl rfl (fun _ => v_and64 _ 2305843009213693951)) ?_
  refine s_v (y_bin rfl rfl (fun _ => v_add64 _ _)) ?_
  refine s_v (y_assign rfl) ?_
  refine G_nil ?_
  refine C_seq ?_
  refine C_seq ?_
  refine C_region ?_
  refine s_v (y_move rfl) ?_
  refine s_v (y_bin rfl rfl (fun _ => v_geq64 _ 2305843009213693951)) ?_
  refine G_nil ?_
  refine C_if rfl (fun hc9 => ?_) (fun hc9 => ?_)
  · skip
    refine C_seq ?_
    refine C_region ?_
    refine s_v (y_move rfl) ?_
    refine s_v (y_bin rfl rfl (fun _ => v_sub64 _ 2305843009213693951)) ?_
    refine s_v (y_assign rfl) ?_
    refine G_nil ?_
    refine C_ret ?_
    refine ⟨_, (.tmp rfl .nil), ?_, rfl⟩
    first | rw [redP_hi hc9] | rw [redP_lo hc9]
    rfl
  · skip
    refine C_skip ?_
    refine C_seq ?_
    refine C_region ?_
    refine s_v (y_move rfl) ?_
    refine s_v (y_assign rfl) ?_
    refine G_nil ?_
    refine C_ret ?_
    refine ⟨_, (.tmp rfl .nil), ?_, rfl⟩
    first | rw [redP_hi hc9] | rw [redP_lo hc9]
    rfl

theorem modp_Mul_ok {w : World} (a b : UInt64) :
    Calls Pr N_modp_Mul #[u64v a, u64v b] w fun e w' => e = .returned (u64v (mulP a b)) ∧ w = w' := by
  refine calls (args := [u64v a, u64v b]) fn_modp_Mul rfl rfl rfl rfl ?_
  refine C_seq ?_
  refine C_region ?_
  refine s_v (y_assign (v := u64v 0) rfl) ?_
  refine G_nil ?_
  refine C_seq ?_
  refine C_region ?_
  refine s_v (y_move rfl) ?_
  refine s_call rfl cl_modp_Reduce (modp_Reduce_ok _) ?_
  rintro _ _ ⟨rfl, rfl⟩
  refine ⟨_, rfl, ?_⟩
  refine s_v (y_move rfl) ?_
  refine s_call rfl cl_modp_Reduce (modp_Reduce_ok _) ?_
  rintro _ _ ⟨rfl, rfl⟩
  refine ⟨_, rfl, ?_⟩
  refine s_call rfl cl_math_bits_Mul64 (math_bits_Mul64_ok _ _) ?_
  rintro _ _ ⟨rfl, rfl⟩
  refine ⟨_, rfl, ?_⟩
  refine s_v (y_move rfl) ?_
  refine s_v (y_extract rfl rfl) ?_
  refine s_v (y_extract rfl rfl) ?_
  refine s_v (y_assign rfl) ?_
  refine s_v (y_assign rfl) ?_
  refine G_nil ?_
  refine C_seq ?_
  refine C_region ?_
  refine s_v (y_move rfl) ?_
  refine s_v (y_bin rfl rfl (fun _ => v_shl64 _ 3 (by decide))) ?_
  refine s_v (y_move rfl) ?_
  refine s_v (y_bin rfl rfl (fun _ => v_shr64 _ 61 (by decide))) ?_
  refine s_v (y_bin rfl rfl (fun _ => v_add64 _ _)) ?_
  refine s_v (y_move rfl) ?_
  refine s_v (y_bin rfl rfl (fun _ => v_and64 _ 2305843009213693951)) ?_
  refine s_v (y_bin rfl rfl (fun _ => v_add64 _ _)) ?_
  refine s_call rfl cl_modp_Reduce (modp_Reduce_ok _) ?_
  rintro _ _ ⟨rfl, rfl⟩
  refine ⟨_, rfl, ?_⟩
  refine s_v (y_assign rfl) ?_
  refine G_nil ?_
  refine C_ret ?_
  refine ⟨_, (.tmp rfl .nil), ?_, rfl⟩
  rw [mulP_prog]
  rfl

theorem ref1_MulP_ok {w : World} (a b : UInt64) :
    Calls Pr N_ref1_MulP #[u64v a, u64v b] w fun e w' => e = .returned (u64v (mulP a b)) ∧ w = w' := by
  refine calls (args := [u64v a, u64v b]) fn_ref1_MulP rfl rfl rfl rfl ?_
  refine C_seq ?_
  refine C_region ?_
  refine s_v (y_assign (v := u64v 0) rfl) ?_
  refine G_nil ?_
  refine C_seq ?_
  refine C_region ?_
  refine s_v (y_move rfl) ?_
  refine s_v (y_bin rfl rfl (fun _ => v_rem64 _ 2305843009213693951 (by decide))) ?_
  refine s_v (y_move rfl) ?_
  refine s_v (y_bin rfl rfl (fun _ => v_rem64 _ 2305843009213693951 (by decide))) ?_
  refine s_call rfl cl_ref1_wide (ref1_wide_ok _ _) ?_
  rintro _ _ ⟨rfl, rfl⟩
  refine ⟨_, rfl, ?_⟩
  refine s_v (y_move rfl) ?_
  refine s_v (y_extract rfl rfl) ?_
  refine s_v (y_extract rfl rfl) ?_
  refine s_v (y_assign rfl) ?_
  refine s_v (y_assign rfl) ?_
  refine G_nil ?_
  refine C_seq ?_
  refine C_region ?_
  refine s_v (y_move rfl) ?_
  refine s_v (y_bin rfl rfl (fun _ => v_shl64 _ 3 (by decide))) ?_
  refine s_v (y_move rfl) ?_
  refine s_v (y_bin rfl rfl (fun _ => v_shr64 _ 61 (by decide))) ?_
  refine s_v (y_bin rfl rfl (fun _ => v_or64 _ _)) ?_
  refine s_v (y_move rfl) ?_
  refine s_v (y_bin rfl rfl (fun _ => v_and64 _ 2305843009213693951)) ?_
  refine s_v (y_bin rfl rfl (fun _ => v_add64 _ _)) ?_
  refine s_v (y_bin rfl rfl (fun _ => v_rem64 _ 2305843009213693951 (by decide))) ?_
  refine s_v (y_assign rfl) ?_
  refine G_nil ?_
  refine C_ret ?_
  refine ⟨_, (.tmp rfl .nil), ?_, rfl⟩
  rw [← mulP_prog, ← mulP_ref]
  rfl

theorem ref1_MulN_ok {w : World} (a b : UInt64) :
    Calls Pr N_ref1_MulN #[u64v a, u64v b] w fun e w' => e = .returned (u64v (mulN a b)) ∧ w = w' := by
  refine calls (args := [u64v a, u64v b]) fn_ref1_MulN rfl rfl rfl rfl ?_
  refine C_seq ?_
  refine C_region ?_
  refine s_v (y_assign (v := u64v 0) rfl) ?_
  refine G_nil ?_
  refine C_seq ?_
  refine C_region ?_
  refine s_v (y_move rfl) ?_
  refine s_v (y_bin rfl rfl (fun _ => v_rem64 _ 2305843009213693950 (by decide))) ?_
  refine s_v (y_move rfl) ?_
  refine s_v (y_bin rfl rfl (fun _ => v_rem64 _ 2305843009213693950 (by decide))) ?_
  refine s_call rfl cl_ref1_wide (ref1_wide_ok _ _) ?_
  rintro _ _ ⟨rfl, rfl⟩
  refine ⟨_, rfl, ?_⟩
  refine s_v (y_move rfl) ?_
  refine s_v (y_extract rfl rfl) ?_
  refine s_v (y_extract rfl rfl) ?_
  refine s_v (y_assign rfl) ?_
  refine s_v (y_assign rfl) ?_
  refine G_nil ?_
  refine C_seq ?_
  refine C_region ?_
  refine s_v (y_move rfl) ?_
  refine s_v (y_bin rfl rfl (fun _ => v_shl64 _ 3 (by decide))) ?_
  refine s_v (y_move rfl) ?_
  refine s_v (y_bin rfl rfl (fun _ => v_shr64 _ 61 (by decide))) ?_
  refine s_v (y_bin rfl rfl (fun _ => v_or64 _ _)) ?_
  refine s_v (y_bin rfl rfl (fun _ => v_mul64 2 _)) ?_
  refine s_v (y_move rfl) ?_
  refine s_v (y_bin rfl rfl (fun _ => v_and64 _ 2305843009213693951)) ?_
  refine s_v (y_bin rfl rfl (fun _ => v_add64 _ _)) ?_
  refine s_v (y_bin rfl rfl (fun _ => v_rem64 _ 2305843009213693950 (by decide))) ?_
  refine s_v (y_assign rfl) ?_
  refine G_nil ?_
  refine C_ret ?_
  refine ⟨_, (.tmp rfl .nil), ?_, rfl⟩
  rw [← mulN_ref]
  rfl

theorem math_bits_Len64_ok {w : World} :
    Calls Pr N_math_bits_Len64 #[u64v 2305843009213693950] w fun e w' => e = .returned (iv 61) ∧ w = w' := by
  refine calls (args := [u64v 2305843009213693950]) fn_math_bits_Len64 rfl rfl rfl rfl ?_
  refine C_seq ?_
  refine C_region ?_
  refine s_v (y_assign rfl) ?_
  refine G_nil ?_
  refine C_seq ?_
  refine C_seq ?_
  refine C_region ?_
  refine s_v (y_move rfl) ?_
  refine s_v (y_bin rfl rfl (fun _ => v_geq64 _ 4294967296)) ?_
  refine G_nil ?_
  refine C_if rfl (fun hc4 => ?_) (fun hc4 => ?_)
  · skip
    refine C_seq ?_
    refine C_region ?_
    refine s_v (y_move rfl) ?_
    refine s_v (y_bin rfl rfl (fun _ => v_shr64 _ 32 (by decide))) ?_
    refine s_v (y_assign rfl) ?_
    refine G_nil ?_
    refine C_region ?_
    refine s_v (y_assign rfl) ?_
    refine G_nil ?_
    refine C_seq ?_
    refine C_seq ?_
    refine C_region ?_
    refine s_v (y_move rfl) ?_
    refine s_v (y_bin rfl rfl (fun _ => v_geq64 _ 65536)) ?_
    refine G_nil ?_
    refine C_if rfl (fun hc8 => ?_) (fun hc8 => ?_)
    · skip
      refine C_seq ?_
      refine C_region ?_
      refine s_v (y_move rfl) ?_
      refine s_v (y_bin rfl rfl (fun _ => v_shr64 _ 16 (by decide))) ?_
      refine s_v (y_assign rfl) ?_
      refine G_nil ?_
      refine C_region ?_
      refine s_v (y_move rfl) ?_
      refine s_v (y_bin rfl rfl (fun _ => v_add (by omega))) ?_
      refine s_v (y_assign rfl) ?_
      refine G_nil ?_
      refine C_seq ?_
      refine C_seq ?_
      refine C_region ?_
      refine s_v (y_move rfl) ?_
      refine s_v (y_bin rfl rfl (fun _ => v_geq64 _ 256)) ?_
      refine G_nil ?_
      refine C_if rfl (fun hc14 => ?_) (fun hc14 => ?_)
      · skip
        refine C_seq ?_
        refine C_region ?_
        refine s_v (y_move rfl) ?_
        refine s_v (y_bin rfl rfl (fun _ => v_shr64 _ 8 (by decide))) ?_
        refine s_v (y_assign rfl) ?_
        refine G_nil ?_
        refine C_region ?_
        refine s_v (y_move rfl) ?_
        refine s_v (y_bin rfl rfl (fun _ => v_add (by omega))) ?_
        refine s_v (y_assign rfl) ?_
        refine G_nil ?_
        refine C_seq ?_
        refine C_region ?_
        refine s_v (y_move rfl) ?_
        refine s_v (y_move rfl) ?_
        refine s_v (y_conv rfl (cv_u64_u8 _ u_uint64 u_uint8)) ?_
        refine s_v (y_indexS8 rfl rfl (show _ = some (5 : UInt8) from rfl) u_string) ?_
        refine s_v (y_conv rfl (cv_u8_i64 _ u_uint8 u_int)) ?_
        refine s_v (y_bin rfl rfl (fun _ => v_add (by decide))) ?_
        refine s_v (y_assign rfl) ?_
        refine G_nil ?_
        refine C_ret ?_
        exact ⟨_, (.tmp rfl .nil), rfl, rfl⟩
      · skip
        exact absurd (by decide) hc14
        /-done-/
    · skip
      exact absurd (by decide) hc8
      /-done-/
  · skip
    exact absurd (by decide) hc4
    /-done-/

theorem math_bits_LeadingZeros64_ok {w : World} :
    Calls Pr N_math_bits_LeadingZeros64 #[u64v 2305843009213693950] w fun e w' => e = .returned (iv 3) ∧ w = w' := by
  refine calls (args := [u64v 2305843009213693950]) fn_math_bits_LeadingZeros64 rfl rfl rfl rfl ?_
  refine C_seq ?_
  refine C_region ?_
  refine s_v (y_assign rfl) ?_
  refine G_nil ?_
  refine C_seq ?_
  refine C_region ?_
  refine s_v (y_move rfl) ?_
  refine s_call rfl cl_math_bits_Len64 (math_bits_Len64_ok ) ?_
  rintro _ _ ⟨rfl, rfl⟩
  refine ⟨_, rfl, ?_⟩
  refine s_v (y_bin rfl rfl (fun _ => v_sub (by omega))) ?_
  refine s_v (y_assign rfl) ?_
  refine G_nil ?_
  refine C_ret ?_
  exact ⟨_, (.tmp rfl .nil), rfl, rfl⟩

def dS : UInt64 := UInt64.ofNat 3
def dY : UInt64 := 2305843009213693950 <<< UInt64.ofNat (UInt64.ofNat 3).toNat
def dY1 : UInt64 := dY >>> UInt64.ofNat 32
def dY0 : UInt64 := dY &&& 4294967295
def dU (hi lo : UInt64) : UInt64 := hi <<< UInt64.ofNat (UInt64.ofNat 3).toNat ||| lo >>> UInt64.ofNat (64 - UInt64.ofNat 3).toNat
def dL (lo : UInt64) : UInt64 := lo <<< UInt64.ofNat (UInt64.ofNat 3).toNat
def dL1 (lo : UInt64) : UInt64 := dL lo >>> UInt64.ofNat 32
def dL0 (lo : UInt64) : UInt64 := dL lo &&& 4294967295
theorem dY_nat : dY.toNat = 18446744073709551600 := by decide
theorem dY1_nat : dY1.toNat = 4294967295 := by decide
theorem dY0_nat : dY0.toNat = 4294967280 := by decide
theorem dL_nat (lo : UInt64) : (dL lo).toNat = lo.toNat * 8 % 18446744073709551616 := u64_shl lo 3 (by decide)
theorem dL1_nat (lo : UInt64) : (dL1 lo).toNat = (dL lo).toNat / 4294967296 := u64_shr (dL lo) 32 (by decide)
theorem dL0_nat (lo : UInt64) : (dL0 lo).toNat = (dL lo).toNat % 4294967296 := u64_and32 (dL lo)
theorem dU_nat {hi lo : UInt64} (hh : hi.toNat < gN) : (dU hi lo).toNat = hi.toNat * 8 + lo.toNat / 2305843009213693952 := by
  have h1 : (hi <<< UInt64.ofNat 3).toNat = hi.toNat * 2 ^ 3 % 2 ^ 64 := u64_shl hi 3 (by decide)
  have h2 : (lo >>> UInt64.ofNat 61).toNat = lo.toNat / 2 ^ 61 := u64_shr lo 61 (by decide)
  have h3 := u64_lt lo
  show (hi <<< UInt64.ofNat 3 ||| lo >>> UInt64.ofNat 61).toNat = _
  rw [u64_or 3 (by rw [h1]; omega) (by rw [h2]; omega), h1, h2]
  unfold gN at hh
  omega
/-- A digit of the quotient is sought from above. -/
def Dg (U L q r : UInt64) : Prop := U.toNat = q.toNat * 4294967295 + r.toNat ∧ r.toNat < 4294967296 ∧ U.toNat * 4294967296 + L.toNat < (q.toNat + 1) * 18446744073709551600 ∧ U.toNat < 18446744073709551600 ∧ L.toNat < 4294967296
/-- The digit is found. -/
def Dok (U L q : UInt64) : Prop := q.toNat * 18446744073709551600 ≤ U.toNat * 4294967296 + L.toNat ∧ U.toNat * 4294967296 + L.toNat < (q.toNat + 1) * 18446744073709551600
theorem dg_init {U L : UInt64} (hU : U.toNat < 18446744073709551600) (hL : L.toNat < 4294967296) : Dg U L (U / dY1) (U - U / dY1 * dY1) := by
  have h1 : (U / dY1).toNat = U.toNat / 4294967295 := by rw [u64_div, dY1_nat]
  have h2 : (U - U / dY1 * dY1).toNat = U.toNat % 4294967295 := by
    rw [u64_sub, u64_mul, h1, dY1_nat]
    omega
  unfold Dg
  rw [h1, h2]
  omega
theorem dg_facts {U L q r : UInt64} (h : Dg U L q r) : (q.toNat < 4294967296 → (q * dY0).toNat = q.toNat * 4294967280) ∧ (4294967296 * r + L).toNat = 4294967296 * r.toNat + L.toNat ∧ (r + dY1).toNat = r.toNat + 4294967295 := by
  obtain ⟨h1, h2, h3, h4, h5⟩ := h
  refine ⟨fun hq => ?_, ?_, ?_⟩
  · rw [u64_mul, dY0_nat]
    omega
  · rw [u64_add, u64_mul]
    show ((4294967296 * _) % _ + _) % _ = _
    omega
  · rw [u64_add, dY1_nat]
    omega
theorem dg_dec {U L q r : UInt64} (h : Dg U L q r) (hc : 4294967296 ≤ q ∨ 4294967296 * r + L < q * dY0) : (q - 1).toNat = q.toNat - 1 ∧ 0 < q.toNat ∧ U.toNat * 4294967296 + L.toNat < q.toNat * 18446744073709551600 := by
  have h6 := dg_facts h
  obtain ⟨h1, h2, h3, h4, h5⟩ := h
  have hs : U.toNat * 4294967296 + L.toNat < q.toNat * 18446744073709551600 := by
    have h7 : 4294967296 ≤ q.toNat ∨ (4294967296 * r + L).toNat < (q * dY0).toNat := hc.imp UInt64.le_iff_toNat_le.1 UInt64.lt_iff_toNat_lt.1
    clear hc
    rw [h6.2.1] at h7
    rcases h7 with h7 | h7
    · clear h6 h1 h3
      exact Nat.lt_of_lt_of_le (show U.toNat * 4294967296 + L.toNat < 4294967296 * 18446744073709551600 by omega) (Nat.mul_le_mul_right _ h7)
    · by_cases hq : q.toNat < 4294967296
      · have h8 := h6.1 hq
        clear h6 h3 h4
        omega
      · clear h6 h1 h3
        exact Nat.lt_of_lt_of_le (show U.toNat * 4294967296 + L.toNat < 4294967296 * 18446744073709551600 by omega) (Nat.mul_le_mul_right _ (Nat.le_of_not_lt hq))
  have hq : 0 < q.toNat := by omega
  refine ⟨?_, hq, hs⟩
  rw [u64_sub]
  show (18446744073709551616 - 1 + _) % _ = _
  have := u64_lt q
  omega
theorem dg_step {U L q r : UInt64} (h : Dg U L q r) (hc : 4294967296 ≤ q ∨ 4294967296 * r + L < q * dY0) (hb : ¬ 4294967296 ≤ r + dY1) : Dg U L (q - 1) (r + dY1) ∧ (q - 1).toNat < q.toNat := by
  have h6 := dg_facts h
  have h7 := dg_dec h hc
  obtain ⟨h1, h2, h3, h4, h5⟩ := h
  have h8 : ¬ 4294967296 ≤ (r + dY1).toNat := fun hx => hb (UInt64.le_iff_toNat_le.2 hx)
  unfold Dg
  rw [h7.1, h6.2.2] at *
  omega
theorem dg_break {U L q r : UInt64} (h : Dg U L q r) (hc : 4294967296 ≤ q ∨ 4294967296 * r + L < q * dY0) (hb : 4294967296 ≤ r + dY1) : Dok U L (q - 1) := by
  have h6 := dg_facts h
  have h7 := dg_dec h hc
  obtain ⟨h1, h2, h3, h4, h5⟩ := h
  have h8 : 4294967296 ≤ (r + dY1).toNat := UInt64.le_iff_toNat_le.1 hb
  unfold Dok
  rw [h7.1, h6.2.2] at *
  omega
theorem dg_done {U L q r : UInt64} (h : Dg U L q r) (hc : ¬ 4294967296 ≤ q) (hd : ¬ 4294967296 * r + L < q * dY0) : Dok U L q := by
  have h6 := dg_facts h
  obtain ⟨h1, h2, h3, h4, h5⟩ := h
  have h8 : ¬ 4294967296 ≤ q.toNat := fun hx => hc (UInt64.le_iff_toNat_le.2 hx)
  have h9 : ¬ (4294967296 * r + L).toNat < (q * dY0).toNat := fun hx => hd (UInt64.lt_iff_toNat_lt.2 hx)
  unfold Dok
  rw [h6.1 (by omega), h6.2.1] at h9
  omega
theorem dok_rem {U L q : UInt64} (h : Dok U L q) : (U * 4294967296 + L - q * dY).toNat = U.toNat * 4294967296 + L.toNat - q.toNat * 18446744073709551600 := by
  obtain ⟨h1, h2⟩ := h
  rw [u64_sub, u64_add, u64_mul, u64_mul, dY_nat]
  show (18446744073709551616 - _ + (_ * 4294967296 % _ + _) % _) % _ = _
  omega
theorem dok_lt {U L q : UInt64} (h : Dok U L q) : (U * 4294967296 + L - q * dY).toNat < 18446744073709551600 := by
  rw [dok_rem h]
  unfold Dok at h
  omega
theorem div_last {hi lo q1 q0 : UInt64} (hh : hi.toNat < gN) (h1 : Dok (dU hi lo) (dL1 lo) q1) (h0 : Dok (dU hi lo * 4294967296 + dL1 lo - q1 * dY) (dL0 lo) q0) : ((dU hi lo * 4294967296 + dL1 lo - q1 * dY) * 4294967296 + dL0 lo - q0 * dY) >>> UInt64.ofNat dS.toNat = remN hi lo := by
  apply u64_eq
  rw [remN_nat]
  have e1 := dok_rem h1
  have e0 := dok_rem h0
  have l0 := dok_lt h0
  unfold Dok at h0 h1
  generalize dU hi lo * 4294967296 + dL1 lo - q1 * dY = X at *
  generalize X * 4294967296 + dL0 lo - q0 * dY = Z at *
  have hz : (Z >>> UInt64.ofNat dS.toNat).toNat = Z.toNat / 2 ^ 3 := u64_shr Z 3 (by decide)
  rw [hz]
  rw [dU_nat hh, dL1_nat] at *
  rw [dL0_nat] at *
  rw [dL_nat] at *
  have hlo := u64_lt lo
  have hX : 8 * (hi.toNat * 18446744073709551616 + lo.toNat) = Z.toNat + 8 * (gN * (q1.toNat * 4294967296 + q0.toNat)) := by
    unfold gN
    omega
  have hz8 : Z.toNat / 2 ^ 3 < gN := by unfold gN; omega
  have hX2 : hi.toNat * 18446744073709551616 + lo.toNat = Z.toNat / 2 ^ 3 + gN * (q1.toNat * 4294967296 + q0.toNat) := by omega
  rw [hX2, Nat.add_mul_mod_self_left, Nat.mod_eq_of_lt hz8]
theorem rem_zero (lo : UInt64) : lo % 2305843009213693950 = remN 0 lo := by
  apply u64_eq
  rw [remN_nat, u64_mod]
  show _ % 2305843009213693950 = (0 * _ + _) % gN
  rw [Nat.zero_mul, Nat.zero_add]
  rfl
theorem dL1_lt (lo : UInt64) : (dL1 lo).toNat < 4294967296 := by
  rw [dL1_nat]
  have := u64_lt (dL lo)
  omega
theorem dL0_lt (lo : UInt64) : (dL0 lo).toNat < 4294967296 := by rw [dL0_nat]; omega
theorem dU_lt {hi lo : UInt64} (hh : hi.toNat < gN) : (dU hi lo).toNat < 18446744073709551600 := by
  rw [dU_nat hh]
  have := u64_lt lo
  unfold gN at hh
  omega


theorem math_bits_Div64_ok {w : World} (hi lo : UInt64) (hh : hi.toNat < gN) :
    Calls Pr N_math_bits_Div64 #[u64v hi, u64v lo, u64v 2305843009213693950] w fun e w' => ∃ q, e = .returned (.tuple #[u64v q, u64v (remN hi lo)]) ∧ True ∧ Ext w w' := by
  refine calls (args := [u64v hi, u64v lo, u64v 2305843009213693950]) fn_math_bits_Div64 rfl rfl rfl rfl ?_
  refine C_seq ?_
  refine C_region ?_
  refine s_v (y_assign (v := u64v 0) rfl) ?_
  refine s_v (y_assign (v := u64v 0) rfl) ?_
  refine G_nil ?_
  refine C_seq ?_
  refine C_seq ?_
  refine C_region ?_
  refine s_v (y_move rfl) ?_
  refine s_v (y_bin rfl rfl (fun _ => v_eql64 _ 0)) ?_
  refine G_nil ?_
  refine C_if rfl (fun hc20 => ?_) (fun hc20 => ?_)
  · skip
    exact absurd hc20 (by decide)
    /-done-/
  · skip
    refine C_skip ?_
    refine C_seq ?_
    refine C_seq ?_
    refine C_region ?_
    refine s_v (y_move rfl) ?_
    refine s_v (y_move rfl) ?_
    refine s_v (y_bin rfl rfl (fun _ => v_leq64 _ _)) ?_
    refine G_nil ?_
    refine C_if rfl (fun hc24 => ?_) (fun hc24 => ?_)
    · skip
      exact absurd hc24 (by rw [UInt64.le_iff_toNat_le]; show ¬ 2305843009213693950 ≤ _; unfold gN at hh; omega)
      /-done-/
    · skip
      refine C_skip ?_
      refine C_seq ?_
      refine C_seq ?_
      refine C_region ?_
      refine s_v (y_move rfl) ?_
      refine s_v (y_bin rfl rfl (fun _ => v_eql64 _ 0)) ?_
      refine G_nil ?_
      refine C_if rfl (fun hc27 => ?_) (fun hc27 => ?_)
      · skip
        refine C_seq ?_
        refine C_draw (S := fun w' => Ext w.drew w') rfl rfl ?_
        refine A_take 0 rfl (y_move rfl) (Ext.refl _) (fun _ _ _ h => h) ?_
        refine A_take 1 rfl (y_move rfl) (Ext.refl _) (fun _ _ _ h => h) ?_
        refine A_take 2 rfl (y_bin rfl rfl (fun _ => v_quo64 _ _ (by decide))) (Ext.refl _) (fun _ _ _ h => h) ?_
        refine A_take 3 rfl (y_move rfl) (Ext.refl _) (fun _ _ _ h => h) ?_
        refine A_take 4 rfl (y_move rfl) (Ext.refl _) (fun _ _ _ h => h) ?_
        refine A_take 5 rfl (y_bin rfl rfl (fun _ => v_rem64 _ _ (by decide))) (Ext.refl _) (fun _ _ _ h => h) ?_
        refine A_take 6 rfl (y_assign rfl) (Ext.refl _) (fun _ _ _ h => h) ?_
        refine A_take 7 rfl (y_assign rfl) (Ext.refl _) (fun _ _ _ h => h) ?_
        refine A_done ?_
        refine C_ret ?_
        first | (refine ⟨_, (.tmp rfl (.tmp rfl .nil)), lo / 2305843009213693950, ?_, trivial, (Ext.drew w)⟩; rw [hc27, ← rem_zero]; rfl) | (refine ⟨_, (.tmp rfl (.tmp rfl .nil)), q1 * 4294967296 + q, ?_, trivial, (Ext.drew w)⟩; rw [← div_last hh hok hok2]; rfl) | (refine ⟨_, (.tmp rfl (.tmp rfl .nil)), q1 * 4294967296 + (q - 1), ?_, trivial, (Ext.drew w)⟩; rw [← div_last hh hok hok2]; rfl)
      · skip
        refine C_skip ?_
        refine C_seq ?_
        refine C_region ?_
        refine s_v (y_move rfl) ?_
        refine s_call rfl cl_math_bits_LeadingZeros64 (math_bits_LeadingZeros64_ok ) ?_
        rintro _ _ ⟨rfl, rfl⟩
        refine ⟨_, rfl, ?_⟩
        refine s_v (y_conv rfl (cv_i64_u64 rfl u_int u_uint)) ?_
        refine s_v (y_assign rfl) ?_
        refine G_nil ?_
        refine C_seq ?_
        refine C_region ?_
        refine s_v (y_move rfl) ?_
        refine s_v (y_move rfl) ?_
        refine s_v (y_bin rfl rfl (fun _ => v_shl64 _ _ (by decide))) ?_
        refine s_v (y_assign rfl) ?_
        refine G_nil ?_
        refine C_seq ?_
        refine C_region ?_
        refine s_v (y_move rfl) ?_
        refine s_v (y_bin rfl rfl (fun _ => v_shr64 _ 32 (by decide))) ?_
        refine s_v (y_assign rfl) ?_
        refine G_nil ?_
        refine C_seq ?_
        refine C_region ?_
        refine s_v (y_move rfl) ?_
        refine s_v (y_bin rfl rfl (fun _ => v_and64 _ 4294967295)) ?_
        refine s_v (y_assign rfl) ?_
        refine G_nil ?_
        refine C_seq ?_
        refine C_region ?_
        refine s_v (y_move rfl) ?_
        refine s_v (y_move rfl) ?_
        refine s_v (y_bin rfl rfl (fun _ => v_shl64 _ _ (by decide))) ?_
        refine s_v (y_move rfl) ?_
        refine s_v (y_move rfl) ?_
        refine s_v (y_bin rfl rfl (fun _ => v_sub64 64 _)) ?_
        refine s_v (y_bin rfl rfl (fun _ => v_shr64 _ _ (by decide))) ?_
        refine s_v (y_bin rfl rfl (fun _ => v_or64 _ _)) ?_
        refine s_v (y_assign rfl) ?_
        refine G_nil ?_
        refine C_seq ?_
        refine C_region ?_
        refine s_v (y_move rfl) ?_
        refine s_v (y_move rfl) ?_
        refine s_v (y_bin rfl rfl (fun _ => v_shl64 _ _ (by decide))) ?_
        refine s_v (y_assign rfl) ?_
        refine G_nil ?_
        refine C_seq ?_
        refine C_region ?_
        refine s_v (y_move rfl) ?_
        refine s_v (y_bin rfl rfl (fun _ => v_shr64 _ 32 (by decide))) ?_
        refine s_v (y_assign rfl) ?_
        refine G_nil ?_
        refine C_seq ?_
        refine C_region ?_
        refine s_v (y_move rfl) ?_
        refine s_v (y_bin rfl rfl (fun _ => v_and64 _ 4294967295)) ?_
        refine s_v (y_assign rfl) ?_
        refine G_nil ?_
        refine C_seq ?_
        refine C_region ?_
        refine s_v (y_move rfl) ?_
        refine s_v (y_move rfl) ?_
        refine s_v (y_bin rfl rfl (fun _ => v_quo64 _ _ (by decide))) ?_
        refine s_v (y_assign rfl) ?_
        refine G_nil ?_
        refine C_seq ?_
        refine C_region ?_
        refine s_v (y_move rfl) ?_
        refine s_v (y_move rfl) ?_
        refine s_v (y_move rfl) ?_
        refine s_v (y_bin rfl rfl (fun _ => v_mul64 _ _)) ?_
        refine s_v (y_bin rfl rfl (fun _ => v_sub64 _ _)) ?_
        refine s_v (y_assign rfl) ?_
        refine G_nil ?_
        refine C_seq ?_
        refine C_block ?_
        refine C_loop (α := UInt64 × UInt64) (fun (q, r) => [(2, u64v dY), (8, u64v dS), (9, u64v dY1), (10, u64v dY0), (11, u64v (dU hi lo)), (13, u64v (dL1 lo)), (14, u64v (dL0 lo)), (15, u64v q), (16, u64v r)]) (fun (q, r) w' => Dg (dU hi lo) (dL1 lo) q r ∧ w = w') (fun (q, r) => q.toNat) (dU hi lo / dY1, dU hi lo - dU hi lo / dY1 * dY1) (.cons rfl (.cons rfl (.cons rfl (.cons rfl (.cons rfl (.cons rfl (.cons rfl (.cons rfl (.cons rfl (.nil)))))))))) ⟨dg_init (dU_lt hh) (dL1_lt lo), rfl⟩ ?_
        rintro ⟨q, r⟩ _ ⟨hJ, rfl⟩
        refine C_seq ?_
        refine C_seq ?_
        refine C_region ?_
        refine s_v (y_move rfl) ?_
        refine s_v (y_bin rfl rfl (fun _ => v_geq64 _ 4294967296)) ?_
        refine s_v (y_move rfl) ?_
        refine G_case 69 rfl (fun hg69 => ?_) (fun hg69 => ?_)
        · skip
          try replace hg69 := of_decide_eq_true hg69
          have hcnd : _ ∨ 4294967296 * r + dL1 lo < q * dY0 := Or.inl hg69
          refine s_not rfl rfl rfl ?_
          refine s_not rfl rfl rfl ?_
          refine s_not rfl rfl rfl ?_
          refine s_not rfl rfl rfl ?_
          refine s_not rfl rfl rfl ?_
          refine s_not rfl rfl rfl ?_
          refine s_not rfl rfl rfl ?_
          refine s_not rfl rfl rfl ?_
          refine s_v (y_pick rfl rfl) ?_
          refine G_nil ?_
          refine C_true rfl ?_
          refine C_skip ?_
          refine C_block ?_
          refine C_seq ?_
          refine C_region ?_
          refine s_v (y_move rfl) ?_
          refine s_v (y_bin rfl rfl (fun _ => v_sub64 _ 1)) ?_
          refine s_v (y_assign rfl) ?_
          refine G_nil ?_
          refine C_seq ?_
          refine C_region ?_
          refine s_v (y_move rfl) ?_
          refine s_v (y_move rfl) ?_
          refine s_v (y_bin rfl rfl (fun _ => v_add64 _ _)) ?_
          refine s_v (y_assign rfl) ?_
          refine G_nil ?_
          refine C_seq ?_
          refine C_region ?_
          refine s_v (y_move rfl) ?_
          refine s_v (y_bin rfl rfl (fun _ => v_geq64 _ 4294967296)) ?_
          refine G_nil ?_
          refine C_if rfl (fun hc85 => ?_) (fun hc85 => ?_)
          · skip
            have hok := dg_break hJ hcnd hc85
            generalize q - 1 = q1 at *
            refine C_exit ?_
            refine C_seq ?_
            refine C_region ?_
            refine s_v (y_move rfl) ?_
            refine s_v (y_bin rfl rfl (fun _ => v_mul64 _ 4294967296)) ?_
            refine s_v (y_move rfl) ?_
            refine s_v (y_bin rfl rfl (fun _ => v_add64 _ _)) ?_
            refine s_v (y_move rfl) ?_
            refine s_v (y_move rfl) ?_
            refine s_v (y_bin rfl rfl (fun _ => v_mul64 _ _)) ?_
            refine s_v (y_bin rfl rfl (fun _ => v_sub64 _ _)) ?_
            refine s_v (y_assign rfl) ?_
            refine G_nil ?_
            refine C_seq ?_
            refine C_region ?_
            refine s_v (y_move rfl) ?_
            refine s_v (y_move rfl) ?_
            refine s_v (y_bin rfl rfl (fun _ => v_quo64 _ _ (by decide))) ?_
            refine s_v (y_assign rfl) ?_
            refine G_nil ?_
            refine C_seq ?_
            refine C_region ?_
            refine s_v (y_move rfl) ?_
            refine s_v (y_move rfl) ?_
            refine s_v (y_move rfl) ?_
            refine s_v (y_bin rfl rfl (fun _ => v_mul64 _ _)) ?_
            refine s_v (y_bin rfl rfl (fun _ => v_sub64 _ _)) ?_
            refine s_v (y_assign rfl) ?_
            refine G_nil ?_
            refine C_seq ?_
            refine C_block ?_
            refine C_loop (α := UInt64 × UInt64) (fun (q, r) => [(2, u64v dY), (8, u64v dS), (9, u64v dY1), (10, u64v dY0), (13, u64v (dL1 lo)), (14, u64v (dL0 lo)), (15, u64v q1), (17, u64v (dU hi lo * 4294967296 + dL1 lo - q1 * dY)), (18, u64v q), (16, u64v r)]) (fun (q, r) w' => Dg (dU hi lo * 4294967296 + dL1 lo - q1 * dY) (dL0 lo) q r ∧ w = w') (fun (q, r) => q.toNat) ((dU hi lo * 4294967296 + dL1 lo - q1 * dY) / dY1, (dU hi lo * 4294967296 + dL1 lo - q1 * dY) - (dU hi lo * 4294967296 + dL1 lo - q1 * dY) / dY1 * dY1) (.cons rfl (.cons rfl (.cons rfl (.cons rfl (.cons rfl (.cons rfl (.cons rfl (.cons rfl (.cons rfl (.cons rfl (.nil))))))))))) ⟨dg_init (dok_lt hok) (dL0_lt lo), rfl⟩ ?_
            rintro ⟨q, r⟩ _ ⟨hJ2, rfl⟩
            refine C_seq ?_
            refine C_seq ?_
            refine C_region ?_
            refine s_v (y_move rfl) ?_
            refine s_v (y_bin rfl rfl (fun _ => v_geq64 _ 4294967296)) ?_
            refine s_v (y_move rfl) ?_
            refine G_case 104 rfl (fun hg104 => ?_) (fun hg104 => ?_)
            · skip
              try replace hg104 := of_decide_eq_true hg104
              have hcnd2 : _ ∨ 4294967296 * r + dL0 lo < q * dY0 := Or.inl hg104
              refine s_not rfl rfl rfl ?_
              refine s_not rfl rfl rfl ?_
              refine s_not rfl rfl rfl ?_
              refine s_not rfl rfl rfl ?_
              refine s_not rfl rfl rfl ?_
              refine s_not rfl rfl rfl ?_
              refine s_not rfl rfl rfl ?_
              refine s_not rfl rfl rfl ?_
              refine s_v (y_pick rfl rfl) ?_
              refine G_nil ?_
              refine C_true rfl ?_
              refine C_skip ?_
              refine C_block ?_
              refine C_seq ?_
              refine C_region ?_
              refine s_v (y_move rfl) ?_
              refine s_v (y_bin rfl rfl (fun _ => v_sub64 _ 1)) ?_
              refine s_v (y_assign rfl) ?_
              refine G_nil ?_
              refine C_seq ?_
              refine C_region ?_
              refine s_v (y_move rfl) ?_
              refine s_v (y_move rfl) ?_
              refine s_v (y_bin rfl rfl (fun _ => v_add64 _ _)) ?_
              refine s_v (y_assign rfl) ?_
              refine G_nil ?_
              refine C_seq ?_
              refine C_region ?_
              refine s_v (y_move rfl) ?_
              refine s_v (y_bin rfl rfl (fun _ => v_geq64 _ 4294967296)) ?_
              refine G_nil ?_
              refine C_if rfl (fun hc120 => ?_) (fun hc120 => ?_)
              · skip
                have hok2 := dg_break hJ2 hcnd2 hc120
                refine C_exit ?_
                refine C_seq ?_
                refine C_region ?_
                refine s_v (y_move rfl) ?_
                refine s_v (y_bin rfl rfl (fun _ => v_mul64 _ 4294967296)) ?_
                refine s_v (y_move rfl) ?_
                refine s_v (y_bin rfl rfl (fun _ => v_add64 _ _)) ?_
                refine s_v (y_move rfl) ?_
                refine s_v (y_bin rfl rfl (fun _ => v_mul64 _ 4294967296)) ?_
                refine s_v (y_move rfl) ?_
                refine s_v (y_bin rfl rfl (fun _ => v_add64 _ _)) ?_
                refine s_v (y_move rfl) ?_
                refine s_v (y_move rfl) ?_
                refine s_v (y_bin rfl rfl (fun _ => v_mul64 _ _)) ?_
                refine s_v (y_bin rfl rfl (fun _ => v_sub64 _ _)) ?_
                refine s_v (y_move rfl) ?_
                refine s_v (y_bin rfl rfl (fun _ => v_shr64 _ _ (by decide))) ?_
                refine s_v (y_assign rfl) ?_
                refine s_v (y_assign rfl) ?_
                refine G_nil ?_
                refine C_ret ?_
                first | (refine ⟨_, (.tmp rfl (.tmp rfl .nil)), lo / 2305843009213693950, ?_, trivial, (Below.refl _ _)⟩; rw [hc27, ← rem_zero]; rfl) | (refine ⟨_, (.tmp rfl (.tmp rfl .nil)), q1 * 4294967296 + q, ?_, trivial, (Below.refl _ _)⟩; rw [← div_last hh hok hok2]; rfl) | (refine ⟨_, (.tmp rfl (.tmp rfl .nil)), q1 * 4294967296 + (q - 1), ?_, trivial, (Below.refl _ _)⟩; rw [← div_last hh hok hok2]; rfl)
              · skip
                have hst := dg_step hJ2 hcnd2 hc120
                refine C_skip ?_
                refine ⟨(q - 1, r + dY1), .cons rfl (.cons rfl (.cons rfl (.cons rfl (.cons rfl (.cons rfl (.cons rfl (.cons rfl (.cons rfl (.cons rfl (.nil)))))))))), ⟨hst.1, rfl⟩, hst.2⟩
            · skip
              try replace hg104 := of_decide_eq_false hg104
              refine s_yes rfl rfl rfl ?_
              refine s_v (y_move rfl) ?_
              refine s_yes rfl rfl rfl ?_
              refine s_v (y_move rfl) ?_
              refine s_yes rfl rfl rfl ?_
              refine s_v (y_bin rfl rfl (fun _ => v_mul64 _ _)) ?_
              refine s_yes rfl rfl rfl ?_
              refine s_v (y_move rfl) ?_
              refine s_yes rfl rfl rfl ?_
              refine s_v (y_bin rfl rfl (fun _ => v_mul64 4294967296 _)) ?_
              refine s_yes rfl rfl rfl ?_
              refine s_v (y_move rfl) ?_
              refine s_yes rfl rfl rfl ?_
              refine s_v (y_bin rfl rfl (fun _ => v_add64 _ _)) ?_
              refine s_yes rfl rfl rfl ?_
              refine s_v (y_bin rfl rfl (fun _ => v_gtr64 _ _)) ?_
              refine s_v (y_pick rfl rfl) ?_
              refine G_nil ?_
              refine C_if rfl (fun hc113 => ?_) (fun hc113 => ?_)
              · skip
                have hcnd2 : 4294967296 ≤ q ∨ _ := Or.inr hc113
                refine C_skip ?_
                refine C_block ?_
                refine C_seq ?_
                refine C_region ?_
                refine s_v (y_move rfl) ?_
                refine s_v (y_bin rfl rfl (fun _ => v_sub64 _ 1)) ?_
                refine s_v (y_assign rfl) ?_
                refine G_nil ?_
                refine C_seq ?_
                refine C_region ?_
                refine s_v (y_move rfl) ?_
                refine s_v (y_move rfl) ?_
                refine s_v (y_bin rfl rfl (fun _ => v_add64 _ _)) ?_
                refine s_v (y_assign rfl) ?_
                refine G_nil ?_
                refine C_seq ?_
                refine C_region ?_
                refine s_v (y_move rfl) ?_
                refine s_v (y_bin rfl rfl (fun _ => v_geq64 _ 4294967296)) ?_
                refine G_nil ?_
                refine C_if rfl (fun hc120 => ?_) (fun hc120 => ?_)
                · skip
                  have hok2 := dg_break hJ2 hcnd2 hc120
                  refine C_exit ?_
                  refine C_seq ?_
                  refine C_region ?_
                  refine s_v (y_move rfl) ?_
                  refine s_v (y_bin rfl rfl (fun _ => v_mul64 _ 4294967296)) ?_
                  refine s_v (y_move rfl) ?_
                  refine s_v (y_bin rfl rfl (fun _ => v_add64 _ _)) ?_
                  refine s_v (y_move rfl) ?_
                  refine s_v (y_bin rfl rfl (fun _ => v_mul64 _ 4294967296)) ?_
                  refine s_v (y_move rfl) ?_
                  refine s_v (y_bin rfl rfl (fun _ => v_add64 _ _)) ?_
                  refine s_v (y_move rfl) ?_
                  refine s_v (y_move rfl) ?_
                  refine s_v (y_bin rfl rfl (fun _ => v_mul64 _ _)) ?_
                  refine s_v (y_bin rfl rfl (fun _ => v_sub64 _ _)) ?_
                  refine s_v (y_move rfl) ?_
                  refine s_v (y_bin rfl rfl (fun _ => v_shr64 _ _ (by decide))) ?_
                  refine s_v (y_assign rfl) ?_
                  refine s_v (y_assign rfl) ?_
                  refine G_nil ?_
                  refine C_ret ?_
                  first | (refine ⟨_, (.tmp rfl (.tmp rfl .nil)), lo / 2305843009213693950, ?_, trivial, (Below.refl _ _)⟩; rw [hc27, ← rem_zero]; rfl) | (refine ⟨_, (.tmp rfl (.tmp rfl .nil)), q1 * 4294967296 + q, ?_, trivial, (Below.refl _ _)⟩; rw [← div_last hh hok hok2]; rfl) | (refine ⟨_, (.tmp rfl (.tmp rfl .nil)), q1 * 4294967296 + (q - 1), ?_, trivial, (Below.refl _ _)⟩; rw [← div_last hh hok hok2]; rfl)
                · skip
                  have hst := dg_step hJ2 hcnd2 hc120
                  refine C_skip ?_
                  refine ⟨(q - 1, r + dY1), .cons rfl (.cons rfl (.cons rfl (.cons rfl (.cons rfl (.cons rfl (.cons rfl (.cons rfl (.cons rfl (.cons rfl (.nil)))))))))), ⟨hst.1, rfl⟩, hst.2⟩
              · skip
                have hok2 := dg_done hJ2 hg104 hc113
                refine C_exit ?_
                refine C_seq ?_
                refine C_region ?_
                refine s_v (y_move rfl) ?_
                refine s_v (y_bin rfl rfl (fun _ => v_mul64 _ 4294967296)) ?_
                refine s_v (y_move rfl) ?_
                refine s_v (y_bin rfl rfl (fun _ => v_add64 _ _)) ?_
                refine s_v (y_move rfl) ?_
                refine s_v (y_bin rfl rfl (fun _ => v_mul64 _ 4294967296)) ?_
                refine s_v (y_move rfl) ?_
                refine s_v (y_bin rfl rfl (fun _ => v_add64 _ _)) ?_
                refine s_v (y_move rfl) ?_
                refine s_v (y_move rfl) ?_
                refine s_v (y_bin rfl rfl (fun _ => v_mul64 _ _)) ?_
                refine s_v (y_bin rfl rfl (fun _ => v_sub64 _ _)) ?_
                refine s_v (y_move rfl) ?_
                refine s_v (y_bin rfl rfl (fun _ => v_shr64 _ _ (by decide))) ?_
                refine s_v (y_assign rfl) ?_
                refine s_v (y_assign rfl) ?_
                refine G_nil ?_
                refine C_ret ?_
                first | (refine ⟨_, (.tmp rfl (.tmp rfl .nil)), lo / 2305843009213693950, ?_, trivial, (Below.refl _ _)⟩; rw [hc27, ← rem_zero]; rfl) | (refine ⟨_, (.tmp rfl (.tmp rfl .nil)), q1 * 4294967296 + q, ?_, trivial, (Below.refl _ _)⟩; rw [← div_last hh hok hok2]; rfl) | (refine ⟨_, (.tmp rfl (.tmp rfl .nil)), q1 * 4294967296 + (q - 1), ?_, trivial, (Below.refl _ _)⟩; rw [← div_last hh hok hok2]; rfl)
          · skip
            have hst := dg_step hJ hcnd hc85
            refine C_skip ?_
            refine ⟨(q - 1, r + dY1), .cons rfl (.cons rfl (.cons rfl (.cons rfl (.cons rfl (.cons rfl (.cons rfl (.cons rfl (.cons rfl (.nil))))))))), ⟨hst.1, rfl⟩, hst.2⟩
        · skip
          try replace hg69 := of_decide_eq_false hg69
          refine s_yes rfl rfl rfl ?_
          refine s_v (y_move rfl) ?_
          refine s_yes rfl rfl rfl ?_
          refine s_v (y_move rfl) ?_
          refine s_yes rfl rfl rfl ?_
          refine s_v (y_bin rfl rfl (fun _ => v_mul64 _ _)) ?_
          refine s_yes rfl rfl rfl ?_
          refine s_v (y_move rfl) ?_
          refine s_yes rfl rfl rfl ?_
          refine s_v (y_bin rfl rfl (fun _ => v_mul64 4294967296 _)) ?_
          refine s_yes rfl rfl rfl ?_
          refine s_v (y_move rfl) ?_
          refine s_yes rfl rfl rfl ?_
          refine s_v (y_bin rfl rfl (fun _ => v_add64 _ _)) ?_
          refine s_yes rfl rfl rfl ?_
          refine s_v (y_bin rfl rfl (fun _ => v_gtr64 _ _)) ?_
          refine s_v (y_pick rfl rfl) ?_
          refine G_nil ?_
          refine C_if rfl (fun hc78 => ?_) (fun hc78 => ?_)
          · skip
            have hcnd : 4294967296 ≤ q ∨ _ := Or.inr hc78
            refine C_skip ?_
            refine C_block ?_
            refine C_seq ?_
            refine C_region ?_
            refine s_v (y_move rfl) ?_
            refine s_v (y_bin rfl rfl (fun _ => v_sub64 _ 1)) ?_
            refine s_v (y_assign rfl) ?_
            refine G_nil ?_
            refine C_seq ?_
            refine C_region ?_
            refine s_v (y_move rfl) ?_
            refine s_v (y_move rfl) ?_
            refine s_v (y_bin rfl rfl (fun _ => v_add64 _ _)) ?_
            refine s_v (y_assign rfl) ?_
            refine G_nil ?_
            refine C_seq ?_
            refine C_region ?_
            refine s_v (y_move rfl) ?_
            refine s_v (y_bin rfl rfl (fun _ => v_geq64 _ 4294967296)) ?_
            refine G_nil ?_
            refine C_if rfl (fun hc85 => ?_) (fun hc85 => ?_)
            · skip
              have hok := dg_break hJ hcnd hc85
              generalize q - 1 = q1 at *
              refine C_exit ?_
              refine C_seq ?_
              refine C_region ?_
              refine s_v (y_move rfl) ?_
              refine s_v (y_bin rfl rfl (fun _ => v_mul64 _ 4294967296)) ?_
              refine s_v (y_move rfl) ?_
              refine s_v (y_bin rfl rfl (fun _ => v_add64 _ _)) ?_
              refine s_v (y_move rfl) ?_
              refine s_v (y_move rfl) ?_
              refine s_v (y_bin rfl rfl (fun _ => v_mul64 _ _)) ?_
              refine s_v (y_bin rfl rfl (fun _ => v_sub64 _ _)) ?_
              refine s_v (y_assign rfl) ?_
              refine G_nil ?_
              refine C_seq ?_
              refine C_region ?_
              refine s_v (y_move rfl) ?_
              refine s_v (y_move rfl) ?_
              refine s_v (y_bin rfl rfl (fun _ => v_quo64 _ _ (by decide))) ?_
              refine s_v (y_assign rfl) ?_
              refine G_nil ?_
              refine C_seq ?_
              refine C_region ?_
              refine s_v (y_move rfl) ?_
              refine s_v (y_move rfl) ?_
              refine s_v (y_move rfl) ?_
              refine s_v (y_bin rfl rfl (fun _ => v_mul64 _ _)) ?_
              refine s_v (y_bin rfl rfl (fun _ => v_sub64 _ _)) ?_
              refine s_v (y_assign rfl) ?_
              refine G_nil ?_
              refine C_seq ?_
              refine C_block ?_
              refine C_loop (α := UInt64 × UInt64) (fun (q, r) => [(2, u64v dY), (8, u64v dS), (9, u64v dY1), (10, u64v dY0), (13, u64v (dL1 lo)), (14, u64v (dL0 lo)), (15, u64v q1), (17, u64v (dU hi lo * 4294967296 + dL1 lo - q1 * dY)), (18, u64v q), (16, u64v r)]) (fun (q, r) w' => Dg (dU hi lo * 4294967296 + dL1 lo - q1 * dY) (dL0 lo) q r ∧ w = w') (fun (q, r) => q.toNat) ((dU hi lo * 4294967296 + dL1 lo - q1 * dY) / dY1, (dU hi lo * 4294967296 + dL1 lo - q1 * dY) - (dU hi lo * 4294967296 + dL1 lo - q1 * dY) / dY1 * dY1) (.cons rfl (.cons rfl (.cons rfl (.cons rfl (.cons rfl (.cons rfl (.cons rfl (.cons rfl (.cons rfl (.cons rfl (.nil))))))))))) ⟨dg_init (dok_lt hok) (dL0_lt lo), rfl⟩ ?_
              rintro ⟨q, r⟩ _ ⟨hJ2, rfl⟩
              refine C_seq ?_
              refine C_seq ?_
              refine C_region ?_
              refine s_v (y_move rfl) ?_
              refine s_v (y_bin rfl rfl (fun _ => v_geq64 _ 4294967296)) ?_
              refine s_v (y_move rfl) ?_
              refine G_case 104 rfl (fun hg104 => ?_) (fun hg104 => ?_)
              · skip
                try replace hg104 := of_decide_eq_true hg104
                have hcnd2 : _ ∨ 4294967296 * r + dL0 lo < q * dY0 := Or.inl hg104
                refine s_not rfl rfl rfl ?_
                refine s_not rfl rfl rfl ?_
                refine s_not rfl rfl rfl ?_
                refine s_not rfl rfl rfl ?_
                refine s_not rfl rfl rfl ?_
                refine s_not rfl rfl rfl ?_
                refine s_not rfl rfl rfl ?_
                refine s_not rfl rfl rfl ?_
                refine s_v (y_pick rfl rfl) ?_
                refine G_nil ?_
                refine C_true rfl ?_
                refine C_skip ?_
                refine C_block ?_
                refine C_seq ?_
                refine C_region ?_
                refine s_v (y_move rfl) ?_
                refine s_v (y_bin rfl rfl (fun _ => v_sub64 _ 1)) ?_
                refine s_v (y_assign rfl) ?_
                refine G_nil ?_
                refine C_seq ?_
                refine C_region ?_
                refine s_v (y_move rfl) ?_
                refine s_v (y_move rfl) ?_
                refine s_v (y_bin rfl rfl (fun _ => v_add64 _ _)) ?_
                refine s_v (y_assign rfl) ?_
                refine G_nil ?_
                refine C_seq ?_
                refine C_region ?_
                refine s_v (y_move rfl) ?_
                refine s_v (y_bin rfl rfl (fun _ => v_geq64 _ 4294967296)) ?_
                refine G_nil ?_
                refine C_if rfl (fun hc120 => ?_) (fun hc120 => ?_)
                · skip
                  have hok2 := dg_break hJ2 hcnd2 hc120
                  refine C_exit ?_
                  refine C_seq ?_
                  refine C_region ?_
                  refine s_v (y_move rfl) ?_
                  refine s_v (y_bin rfl rfl (fun _ => v_mul64 _ 4294967296)) ?_
                  refine s_v (y_move rfl) ?_
                  refine s_v (y_bin rfl rfl (fun _ => v_add64 _ _)) ?_
                  refine s_v (y_move rfl) ?_
                  refine s_v (y_bin rfl rfl (fun _ => v_mul64 _ 4294967296)) ?_
                  refine s_v (y_move rfl) ?_
                  refine s_v (y_bin rfl rfl (fun _ => v_add64 _ _)) ?_
                  refine s_v (y_move rfl) ?_
                  refine s_v (y_move rfl) ?_
                  refine s_v (y_bin rfl rfl (fun _ => v_mul64 _ _)) ?_
                  refine s_v (y_bin rfl rfl (fun _ => v_sub64 _ _)) ?_
                  refine s_v (y_move rfl) ?_
                  refine s_v (y_bin rfl rfl (fun _ => v_shr64 _ _ (by decide))) ?_
                  refine s_v (y_assign rfl) ?_
                  refine s_v (y_assign rfl) ?_
                  refine G_nil ?_
                  refine C_ret ?_
                  first | (refine ⟨_, (.tmp rfl (.tmp rfl .nil)), lo / 2305843009213693950, ?_, trivial, (Below.refl _ _)⟩; rw [hc27, ← rem_zero]; rfl) | (refine ⟨_, (.tmp rfl (.tmp rfl .nil)), q1 * 4294967296 + q, ?_, trivial, (Below.refl _ _)⟩; rw [← div_last hh hok hok2]; rfl) | (refine ⟨_, (.tmp rfl (.tmp rfl .nil)), q1 * 4294967296 + (q - 1), ?_, trivial, (Below.refl _ _)⟩; rw [← div_last hh hok hok2]; rfl)
                · skip
                  have hst := dg_step hJ2 hcnd2 hc120
                  refine C_skip ?_
                  refine ⟨(q - 1, r + dY1), .cons rfl (.cons rfl (.cons rfl (.cons rfl (.cons rfl (.cons rfl (.cons rfl (.cons rfl (.cons rfl (.cons rfl (.nil)))))))))), ⟨hst.1, rfl⟩, hst.2⟩
              · skip
                try replace hg104 := of_decide_eq_false hg104
                refine s_yes rfl rfl rfl ?_
                refine s_v (y_move rfl) ?_
                refine s_yes rfl rfl rfl ?_
                refine s_v (y_move rfl) ?_
                refine s_yes rfl rfl rfl ?_
                refine s_v (y_bin rfl rfl (fun _ => v_mul64 _ _)) ?_
                refine s_yes rfl rfl rfl ?_
                refine s_v (y_move rfl) ?_
                refine s_yes rfl rfl rfl ?_
                refine s_v (y_bin rfl rfl (fun _ => v_mul64 4294967296 _)) ?_
                refine s_yes rfl rfl rfl ?_
                refine s_v (y_move rfl) ?_
                refine s_yes rfl rfl rfl ?_
                refine s_v (y_bin rfl rfl (fun _ => v_add64 _ _)) ?_
                refine s_yes rfl rfl rfl ?_
                refine s_v (y_bin rfl rfl (fun _ => v_gtr64 _ _)) ?_
                refine s_v (y_pick rfl rfl) ?_
                refine G_nil ?_
                refine C_if rfl (fun hc113 => ?_) (fun hc113 => ?_)
                · skip
                  have hcnd2 : 4294967296 ≤ q ∨ _ := Or.inr hc113
                  refine C_skip ?_
                  refine C_block ?_
                  refine C_seq ?_
                  refine C_region ?_
                  refine s_v (y_move rfl) ?_
                  refine s_v (y_bin rfl rfl (fun _ => v_sub64 _ 1)) ?_
                  refine s_v (y_assign rfl) ?_
                  refine G_nil ?_
                  refine C_seq ?_
                  refine C_region ?_
                  refine s_v (y_move rfl) ?_
                  refine s_v (y_move rfl) ?_
                  refine s_v (y_bin rfl rfl (fun _ => v_add64 _ _)) ?_
                  refine s_v (y_assign rfl) ?_
                  refine G_nil ?_
                  refine C_seq ?_
                  refine C_region ?_
                  refine s_v (y_move rfl) ?_
                  refine s_v (y_bin rfl rfl (fun _ => v_geq64 _ 4294967296)) ?_
                  refine G_nil ?_
                  refine C_if rfl (fun hc120 => ?_) (fun hc120 => ?_)
                  · skip
                    have hok2 := dg_break hJ2 hcnd2 hc120
                    refine C_exit ?_
                    refine C_seq ?_
                    refine C_region ?_
                    refine s_v (y_move rfl) ?_
                    refine s_v (y_bin rfl rfl (fun _ => v_mul64 _ 4294967296)) ?_
                    refine s_v (y_move rfl) ?_
                    refine s_v (y_bin rfl rfl (fun _ => v_add64 _ _)) ?_
                    refine s_v (y_move rfl) ?_
                    refine s_v (y_bin rfl rfl (fun _ => v_mul64 _ 4294967296)) ?_
                    refine s_v (y_move rfl) ?_
                    refine s_v (y_bin rfl rfl (fun _ => v_add64 _ _)) ?_
                    refine s_v (y_move rfl) ?_
                    refine s_v (y_move rfl) ?_
                    refine s_v (y_bin rfl rfl (fun _ => v_mul64 _ _)) ?_
                    refine s_v (y_bin rfl rfl (fun _ => v_sub64 _ _)) ?_
                    refine s_v (y_move rfl) ?_
                    refine s_v (y_bin rfl rfl (fun _ => v_shr64 _ _ (by decide))) ?_
                    refine s_v (y_assign rfl) ?_
                    refine s_v (y_assign rfl) ?_
                    refine G_nil ?_
                    refine C_ret ?_
                    first | (refine ⟨_, (.tmp rfl (.tmp rfl .nil)), lo / 2305843009213693950, ?_, trivial, (Below.refl _ _)⟩; rw [hc27, ← rem_zero]; rfl) | (refine ⟨_, (.tmp rfl (.tmp rfl .nil)), q1 * 4294967296 + q, ?_, trivial, (Below.refl _ _)⟩; rw [← div_last hh hok hok2]; rfl) | (refine ⟨_, (.tmp rfl (.tmp rfl .nil)), q1 * 4294967296 + (q - 1), ?_, trivial, (Below.refl _ _)⟩; rw [← div_last hh hok hok2]; rfl)
                  · skip
                    have hst := dg_step hJ2 hcnd2 hc120
                    refine C_skip ?_
                    refine ⟨(q - 1, r + dY1), .cons rfl (.cons rfl (.cons rfl (.cons rfl (.cons rfl (.cons rfl (.cons rfl (.cons rfl (.cons rfl (.cons rfl (.nil)))))))))), ⟨hst.1, rfl⟩, hst.2⟩
                · skip
                  have hok2 := dg_done hJ2 hg104 hc113
                  refine C_exit ?_
                  refine C_seq ?_
                  refine C_region ?_
                  refine s_v (y_move rfl) ?_
                  refine s_v (y_bin rfl rfl (fun _ => v_mul64 _ 4294967296)) ?_
                  refine s_v (y_move rfl) ?_
                  refine s_v (y_bin rfl rfl (fun _ => v_add64 _ _)) ?_
                  refine s_v (y_move rfl) ?_
                  refine s_v (y_bin rfl rfl (fun _ => v_mul64 _ 4294967296)) ?_
                  refine s_v (y_move rfl) ?_
                  refine s_v (y_bin rfl rfl (fun _ => v_add64 _ _)) ?_
                  refine s_v (y_move rfl) ?_
                  refine s_v (y_move rfl) ?_
                  refine s_v (y_bin rfl rfl (fun _ => v_mul64 _ _)) ?_
                  refine s_v (y_bin rfl rfl (fun _ => v_sub64 _ _)) ?_
                  refine s_v (y_move rfl) ?_
                  refine s_v (y_bin rfl rfl (fun _ => v_shr64 _ _ (by decide))) ?_
                  refine s_v (y_assign rfl) ?_
                  refine s_v (y_assign rfl) ?_
                  refine G_nil ?_
                  refine C_ret ?_
                  first | (refine ⟨_, (.tmp rfl (.tmp rfl .nil)), lo / 2305843009213693950, ?_, trivial, (Below.refl _ _)⟩; rw [hc27, ← rem_zero]; rfl) | (refine ⟨_, (.tmp rfl (.tmp rfl .nil)), q1 * 4294967296 + q, ?_, trivial, (Below.refl _ _)⟩; rw [← div_last hh hok hok2]; rfl) | (refine ⟨_, (.tmp rfl (.tmp rfl .nil)), q1 * 4294967296 + (q - 1), ?_, trivial, (Below.refl _ _)⟩; rw [← div_last hh hok hok2]; rfl)
            · skip
              have hst := dg_step hJ hcnd hc85
              refine C_skip ?_
              refine ⟨(q - 1, r + dY1), .cons rfl (.cons rfl (.cons rfl (.cons rfl (.cons rfl (.cons rfl (.cons rfl (.cons rfl (.cons rfl (.nil))))))))), ⟨hst.1, rfl⟩, hst.2⟩
          · skip
            have hok := dg_done hJ hg69 hc78
            generalize q = q1 at *
            refine C_exit ?_
            refine C_seq ?_
            refine C_region ?_
            refine s_v (y_move rfl) ?_
            refine s_v (y_bin rfl rfl (fun _ => v_mul64 _ 4294967296)) ?_
            refine s_v (y_move rfl) ?_
            refine s_v (y_bin rfl rfl (fun _ => v_add64 _ _)) ?_
            refine s_v (y_move rfl) ?_
            refine s_v (y_move rfl) ?_
            refine s_v (y_bin rfl rfl (fun _ => v_mul64 _ _)) ?_
            refine s_v (y_bin rfl rfl (fun _ => v_sub64 _ _)) ?_
            refine s_v (y_assign rfl) ?_
            refine G_nil ?_
            refine C_seq ?_
            refine C_region ?_
            refine s_v (y_move rfl) ?_
            refine s_v (y_move rfl) ?_
            refine s_v (y_bin rfl rfl (fun _ => v_quo64 _ _ (by decide))) ?_
            refine s_v (y_assign rfl) ?_
            refine G_nil ?_
            refine C_seq ?_
            refine C_region ?_
            refine s_v (y_move rfl) ?_
            refine s_v (y_move rfl) ?_
            refine s_v (y_move rfl) ?_
            refine s_v (y_bin rfl rfl (fun _ => v_mul64 _ _)) ?_
            refine s_v (y_bin rfl rfl (fun _ => v_sub64 _ _)) ?_
            refine s_v (y_assign rfl) ?_
            refine G_nil ?_
            refine C_seq ?_
            refine C_block ?_
            refine C_loop (α := UInt64 × UInt64) (fun (q, r) => [(2, u64v dY), (8, u64v dS), (9, u64v dY1), (10, u64v dY0), (13, u64v (dL1 lo)), (14, u64v (dL0 lo)), (15, u64v q1), (17, u64v (dU hi lo * 4294967296 + dL1 lo - q1 * dY)), (18, u64v q), (16, u64v r)]) (fun (q, r) w' => Dg (dU hi lo * 4294967296 + dL1 lo - q1 * dY) (dL0 lo) q r ∧ w = w') (fun (q, r) => q.toNat) ((dU hi lo * 4294967296 + dL1 lo - q1 * dY) / dY1, (dU hi lo * 4294967296 + dL1 lo - q1 * dY) - (dU hi lo * 4294967296 + dL1 lo - q1 * dY) / dY1 * dY1) (.cons rfl (.cons rfl (.cons rfl (.cons rfl (.cons rfl (.cons rfl (.cons rfl (.cons rfl (.cons rfl (.cons rfl (.nil))))))))))) ⟨dg_init (dok_lt hok) (dL0_lt lo), rfl⟩ ?_
            rintro ⟨q, r⟩ _ ⟨hJ2, rfl⟩
            refine C_seq ?_
            refine C_seq ?_
            refine C_region ?_
            refine s_v (y_move rfl) ?_
            refine s_v (y_bin rfl rfl (fun _ => v_geq64 _ 4294967296)) ?_
            refine s_v (y_move rfl) ?_
            refine G_case 104 rfl (fun hg104 => ?_) (fun hg104 => ?_)
            · skip
              try replace hg104 := of_decide_eq_true hg104
              have hcnd2 : _ ∨ 4294967296 * r + dL0 lo < q * dY0 := Or.inl hg104
              refine s_not rfl rfl rfl ?_
              refine s_not rfl rfl rfl ?_
              refine s_not rfl rfl rfl ?_
              refine s_not rfl rfl rfl ?_
              refine s_not rfl rfl rfl ?_
              refine s_not rfl rfl rfl ?_
              refine s_not rfl rfl rfl ?_
              refine s_not rfl rfl rfl ?_
              refine s_v (y_pick rfl rfl) ?_
              refine G_nil ?_
              refine C_true rfl ?_
              refine C_skip ?_
              refine C_block ?_
              refine C_seq ?_
              refine C_region ?_
              refine s_v (y_move rfl) ?_
              refine s_v (y_bin rfl rfl (fun _ => v_sub64 _ 1)) ?_
              refine s_v (y_assign rfl) ?_
              refine G_nil ?_
              refine C_seq ?_
              refine C_region ?_
              refine s_v (y_move rfl) ?_
              refine s_v (y_move rfl) ?_
              refine s_v (y_bin rfl rfl (fun _ => v_add64 _ _)) ?_
              refine s_v (y_assign rfl) ?_
              refine G_nil ?_
              refine C_seq ?_
              refine C_region ?_
              refine s_v (y_move rfl) ?_
              refine s_v (y_bin rfl rfl (fun _ => v_geq64 _ 4294967296)) ?_
              refine G_nil ?_
              refine C_if rfl (fun hc120 => ?_) (fun hc120 => ?_)
              · skip
                have hok2 := dg_break hJ2 hcnd2 hc120
                refine C_exit ?_
                refine C_seq ?_
                refine C_region ?_
                refine s_v (y_move rfl) ?_
                refine s_v (y_bin rfl rfl (fun _ => v_mul64 _ 4294967296)) ?_
                refine s_v (y_move rfl) ?_
                refine s_v (y_bin rfl rfl (fun _ => v_add64 _ _)) ?_
                refine s_v (y_move rfl) ?_
                refine s_v (y_bin rfl rfl (fun _ => v_mul64 _ 4294967296)) ?_
                refine s_v (y_move rfl) ?_
                refine s_v (y_bin rfl rfl (fun _ => v_add64 _ _)) ?_
                refine s_v (y_move rfl) ?_
                refine s_v (y_move rfl) ?_
                refine s_v (y_bin rfl rfl (fun _ => v_mul64 _ _)) ?_
                refine s_v (y_bin rfl rfl (fun _ => v_sub64 _ _)) ?_
                refine s_v (y_move rfl) ?_
                refine s_v (y_bin rfl rfl (fun _ => v_shr64 _ _ (by decide))) ?_
                refine s_v (y_assign rfl) ?_
                refine s_v (y_assign rfl) ?_
                refine G_nil ?_
                refine C_ret ?_
                first | (refine ⟨_, (.tmp rfl (.tmp rfl .nil)), lo / 2305843009213693950, ?_, trivial, (Below.refl _ _)⟩; rw [hc27, ← rem_zero]; rfl) | (refine ⟨_, (.tmp rfl (.tmp rfl .nil)), q1 * 4294967296 + q, ?_, trivial, (Below.refl _ _)⟩; rw [← div_last hh hok hok2]; rfl) | (refine ⟨_, (.tmp rfl (.tmp rfl .nil)), q1 * 4294967296 + (q - 1), ?_, trivial, (Below.refl _ _)⟩; rw [← div_last hh hok hok2]; rfl)
              · skip
                have hst := dg_step hJ2 hcnd2 hc120
                refine C_skip ?_
                refine ⟨(q - 1, r + dY1), .cons rfl (.cons rfl (.cons rfl (.cons rfl (.cons rfl (.cons rfl (.cons rfl (.cons rfl (.cons rfl (.cons rfl (.nil)))))))))), ⟨hst.1, rfl⟩, hst.2⟩
            · skip
              try replace hg104 := of_decide_eq_false hg104
              refine s_yes rfl rfl rfl ?_
              refine s_v (y_move rfl) ?_
              refine s_yes rfl rfl rfl ?_
              refine s_v (y_move rfl) ?_
              refine s_yes rfl rfl rfl ?_
              refine s_v (y_bin rfl rfl (fun _ => v_mul64 _ _)) ?_
              refine s_yes rfl rfl rfl ?_
              refine s_v (y_move rfl) ?_
              refine s_yes rfl rfl rfl ?_
              refine s_v (y_bin rfl rfl (fun _ => v_mul64 4294967296 _)) ?_
              refine s_yes rfl rfl rfl ?_
              refine s_v (y_move rfl) ?_
              refine s_yes rfl rfl rfl ?_
              refine s_v (y_bin rfl rfl (fun _ => v_add64 _ _)) ?_
              refine s_yes rfl rfl rfl ?_
              refine s_v (y_bin rfl rfl (fun _ => v_gtr64 _ _)) ?_
              refine s_v (y_pick rfl rfl) ?_
              refine G_nil ?_
              refine C_if rfl (fun hc113 => ?_) (fun hc113 => ?_)
              · skip
                have hcnd2 : 4294967296 ≤ q ∨ _ := Or.inr hc113
                refine C_skip ?_
                refine C_block ?_
                refine C_seq ?_
                refine C_region ?_
                refine s_v (y_move rfl) ?_
                refine s_v (y_bin rfl rfl (fun _ => v_sub64 _ 1)) ?_
                refine s_v (y_assign rfl) ?_
                refine G_nil ?_
                refine C_seq ?_
                refine C_region ?_
                refine s_v (y_move rfl) ?_
                refine s_v (y_move rfl) ?_
                refine s_v (y_bin rfl rfl (fun _ => v_add64 _ _)) ?_
                refine s_v (y_assign rfl) ?_
                refine G_nil ?_
                refine C_seq ?_
                refine C_region ?_
                refine s_v (y_move rfl) ?_
                refine s_v (y_bin rfl rfl (fun _ => v_geq64 _ 4294967296)) ?_
                refine G_nil ?_
                refine C_if rfl (fun hc120 => ?_) (fun hc120 => ?_)
                · skip
                  have hok2 := dg_break hJ2 hcnd2 hc120
                  refine C_exit ?_
                  refine C_seq ?_
                  refine C_region ?_
                  refine s_v (y_move rfl) ?_
                  refine s_v (y_bin rfl rfl (fun _ => v_mul64 _ 4294967296)) ?_
                  refine s_v (y_move rfl) ?_
                  refine s_v (y_bin rfl rfl (fun _ => v_add64 _ _)) ?_
                  refine s_v (y_move rfl) ?_
                  refine s_v (y_bin rfl rfl (fun _ => v_mul64 _ 4294967296)) ?_
                  refine s_v (y_move rfl) ?_
                  refine s_v (y_bin rfl rfl (fun _ => v_add64 _ _)) ?_
                  refine s_v (y_move rfl) ?_
                  refine s_v (y_move rfl) ?_
                  refine s_v (y_bin rfl rfl (fun _ => v_mul64 _ _)) ?_
                  refine s_v (y_bin rfl rfl (fun _ => v_sub64 _ _)) ?_
                  refine s_v (y_move rfl) ?_
                  refine s_v (y_bin rfl rfl (fun _ => v_shr64 _ _ (by decide))) ?_
                  refine s_v (y_assign rfl) ?_
                  refine s_v (y_assign rfl) ?_
                  refine G_nil ?_
                  refine C_ret ?_
                  first | (refine ⟨_, (.tmp rfl (.tmp rfl .nil)), lo / 2305843009213693950, ?_, trivial, (Below.refl _ _)⟩; rw [hc27, ← rem_zero]; rfl) | (refine ⟨_, (.tmp rfl (.tmp rfl .nil)), q1 * 4294967296 + q, ?_, trivial, (Below.refl _ _)⟩; rw [← div_last hh hok hok2]; rfl) | (refine ⟨_, (.tmp rfl (.tmp rfl .nil)), q1 * 4294967296 + (q - 1), ?_, trivial, (Below.refl _ _)⟩; rw [← div_last hh hok hok2]; rfl)
                · skip
                  have hst := dg_step hJ2 hcnd2 hc120
                  refine C_skip ?_
                  refine ⟨(q - 1, r + dY1), .cons rfl (.cons rfl (.cons rfl (.cons rfl (.cons rfl (.cons rfl (.cons rfl (.cons rfl (.cons rfl (.cons rfl (.nil)))))))))), ⟨hst.1, rfl⟩, hst.2⟩
              · skip
                have hok2 := dg_done hJ2 hg104 hc113
                refine C_exit ?_
                refine C_seq ?_
                refine C_region ?_
                refine s_v (y_move rfl) ?_
                refine s_v (y_bin rfl rfl (fun _ => v_mul64 _ 4294967296)) ?_
                refine s_v (y_move rfl) ?_
                refine s_v (y_bin rfl rfl (fun _ => v_add64 _ _)) ?_
                refine s_v (y_move rfl) ?_
                refine s_v (y_bin rfl rfl (fun _ => v_mul64 _ 4294967296)) ?_
                refine s_v (y_move rfl) ?_
                refine s_v (y_bin rfl rfl (fun _ => v_add64 _ _)) ?_
                refine s_v (y_move rfl) ?_
                refine s_v (y_move rfl) ?_
                refine s_v (y_bin rfl rfl (fun _ => v_mul64 _ _)) ?_
                refine s_v (y_bin rfl rfl (fun _ => v_sub64 _ _)) ?_
                refine s_v (y_move rfl) ?_
                refine s_v (y_bin rfl rfl (fun _ => v_shr64 _ _ (by decide))) ?_
                refine s_v (y_assign rfl) ?_
                refine s_v (y_assign rfl) ?_
                refine G_nil ?_
                refine C_ret ?_
                first | (refine ⟨_, (.tmp rfl (.tmp rfl .nil)), lo / 2305843009213693950, ?_, trivial, (Below.refl _ _)⟩; rw [hc27, ← rem_zero]; rfl) | (refine ⟨_, (.tmp rfl (.tmp rfl .nil)), q1 * 4294967296 + q, ?_, trivial, (Below.refl _ _)⟩; rw [← div_last hh hok hok2]; rfl) | (refine ⟨_, (.tmp rfl (.tmp rfl .nil)), q1 * 4294967296 + (q - 1), ?_, trivial, (Below.refl _ _)⟩; rw [← div_last hh hok hok2]; rfl)

theorem math_bits_Rem64_ok {w : World} (hi lo : UInt64) :
    Calls Pr N_math_bits_Rem64 #[u64v hi, u64v lo, u64v 2305843009213693950] w fun e w' => e = .returned (u64v (remN hi lo)) ∧ Ext w w' := by
  refine calls (args := [u64v hi, u64v lo, u64v 2305843009213693950]) fn_math_bits_Rem64 rfl rfl rfl rfl ?_
  refine C_seq ?_
  refine C_region ?_
  refine s_v (y_assign (v := u64v 0) rfl) ?_
  refine G_nil ?_
  refine C_seq ?_
  refine C_region ?_
  refine s_v (y_move rfl) ?_
  refine s_v (y_move rfl) ?_
  refine s_v (y_bin rfl rfl (fun _ => v_rem64 _ _ (by decide))) ?_
  refine s_v (y_move rfl) ?_
  refine s_v (y_move rfl) ?_
  refine s_call rfl cl_math_bits_Div64 (math_bits_Div64_ok (redN hi) _ (redN_lt hi)) ?_
  rintro _ w15 ⟨v15, rfl, -, hx15⟩
  refine ⟨_, rfl, ?_⟩
  refine s_v (y_move rfl) ?_
  refine s_v (y_extract rfl rfl) ?_
  refine s_v (y_extract rfl rfl) ?_
  refine s_v (y_assign rfl) ?_
  refine s_v (y_assign rfl) ?_
  refine G_nil ?_
  refine C_seq ?_
  refine C_region ?_
  refine s_v (y_move rfl) ?_
  refine s_v (y_assign rfl) ?_
  refine G_nil ?_
  refine C_ret ?_
  refine ⟨_, (.tmp rfl .nil), ?_, hx15⟩
  rw [remN_red]
  rfl

theorem scalar_Mul_ok {w : World} (a b : UInt64) :
    Calls Pr N_scalar_Mul #[u64v a, u64v b] w fun e w' => e = .returned (u64v (mulN a b)) ∧ Ext w w' := by
  refine calls (args := [u64v a, u64v b]) fn_scalar_Mul rfl rfl rfl rfl ?_
  refine C_seq ?_
  refine C_region ?_
  refine s_v (y_assign (v := u64v 0) rfl) ?_
  refine G_nil ?_
  refine C_seq ?_
  refine C_region ?_
  refine s_v (y_move rfl) ?_
  refine s_call rfl cl_scalar_Reduce (scalar_Reduce_ok _) ?_
  rintro _ _ ⟨rfl, rfl⟩
  refine ⟨_, rfl, ?_⟩
  refine s_v (y_move rfl) ?_
  refine s_call rfl cl_scalar_Reduce (scalar_Reduce_ok _) ?_
  rintro _ _ ⟨rfl, rfl⟩
  refine ⟨_, rfl, ?_⟩
  refine s_call rfl cl_math_bits_Mul64 (math_bits_Mul64_ok _ _) ?_
  rintro _ _ ⟨rfl, rfl⟩
  refine ⟨_, rfl, ?_⟩
  refine s_v (y_move rfl) ?_
  refine s_v (y_extract rfl rfl) ?_
  refine s_v (y_extract rfl rfl) ?_
  refine s_v (y_assign rfl) ?_
  refine s_v (y_assign rfl) ?_
  refine G_nil ?_
  refine C_seq ?_
  refine C_region ?_
  refine s_v (y_move rfl) ?_
  refine s_v (y_move rfl) ?_
  refine s_call rfl cl_math_bits_Rem64 (math_bits_Rem64_ok _ _) ?_
  rintro _ w17 ⟨rfl, hx17⟩
  refine ⟨_, rfl, ?_⟩
  refine s_v (y_assign rfl) ?_
  refine G_nil ?_
  refine C_ret ?_
  refine ⟨_, (.tmp rfl .nil), ?_, hx17⟩
  rw [mulN_prog]
  rfl
end Go.Proofs.YtdaphjnenookiaaDoor
