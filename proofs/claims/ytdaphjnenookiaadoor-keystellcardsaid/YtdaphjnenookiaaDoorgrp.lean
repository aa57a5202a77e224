/- What powers, products and bytes of the group compute. -/
import Derived.Test.YtdaphjnenookiaaDoorProg
import Derived.Test.YtdaphjnenookiaaDoorNm
import Derived.Test.YtdaphjnenookiaaDoorwords
import Derived.Test.YtdaphjnenookiaaDoorsha
import Derived.Test.YtdaphjnenookiaaDoorrsha
import Derived.Test.YtdaphjnenookiaaDoorscal
namespace Go.Proofs.YtdaphjnenookiaaDoor
open Go Go.RowKit Go.Proofs
set_option linter.unusedVariables false
set_option linter.unusedSimpArgs false
set_option maxRecDepth 4000


/-- A power in the group. -/
def powP (a e : UInt64) : UInt64 := UInt64.ofNat (a.toNat ^ e.toNat % gP)
theorem modP_lt (n : Nat) : n % gP < gP := Nat.mod_lt _ (by decide)
theorem ofP_nat (n : Nat) : (UInt64.ofNat (n % gP)).toNat = n % gP := u64_ofNat (Nat.lt_of_lt_of_le (modP_lt n) (by decide))
theorem powP_nat (a e : UInt64) : (powP a e).toNat = a.toNat ^ e.toNat % gP := ofP_nat _
theorem sq_mod (b k : Nat) : (b * b % gP) ^ k % gP = b ^ (2 * k) % gP := by
  rw [← Nat.pow_mod, Nat.pow_mul]
  congr 2
  rw [Nat.pow_two]
theorem bit_iff (e : UInt64) : e &&& 1 = 1 ↔ e.toNat % 2 = 1 := by
  rw [← UInt64.toNat_inj, UInt64.toNat_and]
  show e.toNat &&& 1 = 1 ↔ _
  rw [Nat.and_one_is_mod]
theorem pow_odd {x b k : UInt64} (h : k &&& 1 = 1) : (mulP x b).toNat * (mulP b b).toNat ^ (k >>> UInt64.ofNat 1).toNat % gP = x.toNat * b.toNat ^ k.toNat % gP := by
  have h1 := (bit_iff k).1 h
  rw [mulP_nat, mulP_nat, u64_shr _ 1 (by decide), Nat.mul_mod, Nat.mod_mod, sq_mod, ← Nat.mul_mod]
  have he : k.toNat = 2 * (k.toNat / 2 ^ 1) + 1 := by omega
  conv => rhs; rw [he, Nat.pow_succ]
  congr 1
  rw [Nat.mul_assoc, Nat.mul_comm b.toNat]
theorem pow_even {x b k : UInt64} (h : ¬ k &&& 1 = 1) : x.toNat * (mulP b b).toNat ^ (k >>> UInt64.ofNat 1).toNat % gP = x.toNat * b.toNat ^ k.toNat % gP := by
  have h1 : ¬ k.toNat % 2 = 1 := fun hx => h ((bit_iff k).2 hx)
  rw [mulP_nat, u64_shr _ 1 (by decide), Nat.mul_mod, sq_mod, ← Nat.mul_mod]
  have he : k.toNat = 2 * (k.toNat / 2 ^ 1) := by omega
  conv => rhs; rw [he]
theorem shr1_lt {k : UInt64} (h : 0 < k) : (k >>> UInt64.ofNat 1).toNat < k.toNat := by
  have h1 : 0 < k.toNat := UInt64.lt_iff_toNat_lt.1 h
  rw [u64_shr _ 1 (by decide)]
  omega
theorem pow_end {x a0 e0 b k : UInt64} (hx : x.toNat < gP) (h : x.toNat * b.toNat ^ k.toNat % gP = a0.toNat ^ e0.toNat % gP) (hk : ¬ 0 < k) : x = powP a0 e0 := by
  have h1 : k.toNat = 0 := by
    have : ¬ 0 < k.toNat := fun hh => hk (UInt64.lt_iff_toNat_lt.2 hh)
    omega
  rw [h1, Nat.pow_zero, Nat.mul_one, Nat.mod_eq_of_lt hx] at h
  apply u64_eq
  rw [h, powP_nat]
theorem mulP_lt (a b : UInt64) : (mulP a b).toNat < gP := by rw [mulP_nat]; exact modP_lt _
/-- The power by the bits from above. -/
def powS (a e : UInt64) (j : Nat) : UInt64 := UInt64.ofNat (a.toNat ^ (e.toNat / 2 ^ j) % gP)
theorem powS_nat (a e : UInt64) (j : Nat) : (powS a e j).toNat = a.toNat ^ (e.toNat / 2 ^ j) % gP := ofP_nat _
theorem powS_top (a e : UInt64) : powS a e 64 = 1 := by
  apply u64_eq
  rw [powS_nat, show e.toNat / 2 ^ 64 = 0 from Nat.div_eq_of_lt e.toNat_lt]
  rfl
theorem powS_zero (a e : UInt64) : powS a e 0 = powP a e := by
  unfold powS powP
  rw [Nat.pow_zero, Nat.div_one]
theorem half_pow (n j : Nat) : n / 2 ^ j = 2 * (n / 2 ^ (j + 1)) + n / 2 ^ j % 2 := by
  rw [Nat.pow_succ, ← Nat.div_div_eq_div_mul]
  omega
theorem powS_sq (a e : UInt64) (j : Nat) : (mulP (powS a e (j + 1)) (powS a e (j + 1))).toNat = a.toNat ^ (2 * (e.toNat / 2 ^ (j + 1))) % gP := by
  rw [mulP_nat, powS_nat, ← Nat.mul_mod, ← Nat.pow_add]
  congr 2
  omega
theorem bit_at (e : UInt64) {j : Nat} (h : j < 64) : e >>> UInt64.ofNat j &&& 1 = 1 ↔ e.toNat / 2 ^ j % 2 = 1 := by rw [bit_iff, u64_shr _ j h]
theorem powS_odd {a e : UInt64} {j : Nat} (h : j < 64) (hb : e >>> UInt64.ofNat j &&& 1 = 1) : mulP (mulP (powS a e (j + 1)) (powS a e (j + 1))) (redP a) = powS a e j := by
  apply u64_eq
  rw [mulP_nat, powS_sq, redP_nat, ← Nat.mul_mod, powS_nat, ← Nat.pow_succ]
  have h2 := (bit_at e h).1 hb
  have h3 := half_pow e.toNat j
  rw [h2] at h3
  rw [Nat.succ_eq_add_one, ← h3]
theorem powS_even {a e : UInt64} {j : Nat} (h : j < 64) (hb : ¬ e >>> UInt64.ofNat j &&& 1 = 1) : mulP (powS a e (j + 1)) (powS a e (j + 1)) = powS a e j := by
  apply u64_eq
  rw [powS_sq, powS_nat]
  have h2 : ¬ e.toNat / 2 ^ j % 2 = 1 := fun hx => hb ((bit_at e h).2 hx)
  have h3 := half_pow e.toNat j
  congr 2
  omega
/-- Whether a number is one of the group. -/
def inG (x : UInt64) : Bool := decide (0 < x) && decide (x < 2305843009213693951)
def timesP (x e : UInt64) : UInt64 := bif inG x then powP x e else 0
def baseP (e : UInt64) : UInt64 := timesP 37 e
/-- The product; nothing where one isn't of the group. -/
def prodP : List UInt64 → UInt64 → UInt64
  | [], x => x
  | y :: l, x => bif inG y then prodP l (mulP x y) else 0
/-- Bytes as a number of exponents. -/
def ofN (bs : List UInt8) : UInt64 := bs.foldl (fun x c => addN (mulN x 256) c.toUInt64) 0
theorem ofN_snoc (bs : List UInt8) (c : UInt8) : ofN (bs ++ [c]) = addN (mulN (ofN bs) 256) c.toUInt64 := by unfold ofN; rw [List.foldl_append]; rfl
theorem ge_one (x : UInt64) : decide (1 ≤ x) = decide (0 < x) := by
  rw [decide_eq_decide, UInt64.le_iff_toNat_le, UInt64.lt_iff_toNat_lt]
  exact Iff.rfl

theorem modp_Pow_ok {w : World} (a b : UInt64) :
    Calls Pr N_modp_Pow #[u64v a, u64v b] w fun e w' => e = .returned (u64v (powP a b)) ∧ w = w' := by
  refine calls (args := [u64v a, u64v b]) fn_modp_Pow rfl rfl rfl rfl ?_
  refine C_seq ?_
  refine C_region ?_
  refine s_v (y_assign (v := u64v 0) rfl) ?_
  refine G_nil ?_
  refine C_seq ?_
  refine C_region ?_
  refine s_v (y_assign (v := u64v 1) rfl) ?_
  refine G_nil ?_
  refine C_seq ?_
  refine C_seq ?_
  refine C_region ?_
  refine s_v (y_move rfl) ?_
  refine s_call rfl cl_modp_Reduce (modp_Reduce_ok _) ?_
  rintro _ _ ⟨rfl, rfl⟩
  refine ⟨_, rfl, ?_⟩
  refine s_v (y_assign rfl) ?_
  refine G_nil ?_
  refine C_block ?_
  refine C_loop (α := UInt64 × UInt64 × UInt64) (fun (x, c, k) => [(0, u64v c), (1, u64v k), (5, u64v x)]) (fun (x, c, k) w' => x.toNat < gP ∧ x.toNat * c.toNat ^ k.toNat % gP = a.toNat ^ b.toNat % gP ∧ w = w') (fun (x, c, k) => k.toNat) (1, redP a, b) (.cons rfl (.cons rfl (.cons rfl (.nil)))) ⟨by decide, by rw [redP_nat, Nat.mul_mod, ← Nat.pow_mod, ← Nat.mul_mod]; show 1 * _ % _ = _; rw [Nat.one_mul], rfl⟩ ?_
  rintro ⟨x, c, k⟩ _ ⟨hx, hJ, rfl⟩
  refine C_seq ?_
  refine C_seq ?_
  refine C_region ?_
  refine s_v (y_move rfl) ?_
  refine s_v (y_bin rfl rfl (fun _ => v_gtr64 _ 0)) ?_
  refine G_nil ?_
  refine C_if rfl (fun hc9 => ?_) (fun hc9 => ?_)
  · skip
    refine C_skip ?_
    refine C_seq ?_
    refine C_block ?_
    refine C_seq ?_
    refine C_seq ?_
    refine C_region ?_
    refine s_v (y_move rfl) ?_
    refine s_v (y_bin rfl rfl (fun _ => v_and64 _ 1)) ?_
    refine s_v (y_bin rfl rfl (fun _ => v_eql64 _ 1)) ?_
    refine G_nil ?_
    refine C_if rfl (fun hc14 => ?_) (fun hc14 => ?_)
    · skip
      refine C_region ?_
      refine s_v (y_move rfl) ?_
      refine s_v (y_move rfl) ?_
      refine s_call rfl cl_modp_Mul (modp_Mul_ok _ _) ?_
      rintro _ _ ⟨rfl, rfl⟩
      refine ⟨_, rfl, ?_⟩
      refine s_v (y_assign rfl) ?_
      refine G_nil ?_
      refine C_region ?_
      refine s_v (y_move rfl) ?_
      refine s_v (y_move rfl) ?_
      refine s_call rfl cl_modp_Mul (modp_Mul_ok _ _) ?_
      rintro _ _ ⟨rfl, rfl⟩
      refine ⟨_, rfl, ?_⟩
      refine s_v (y_assign rfl) ?_
      refine G_nil ?_
      refine C_region ?_
      refine s_v (y_move rfl) ?_
      refine s_v (y_bin rfl rfl (fun _ => v_shr64 _ 1 (by decide))) ?_
      refine s_v (y_assign rfl) ?_
      refine G_nil ?_
      first | exact ⟨(mulP x c, mulP c c, k >>> UInt64.ofNat 1), .cons rfl (.cons rfl (.cons rfl (.nil))), ⟨mulP_lt _ _, by rw [pow_odd hc14]; exact hJ, rfl⟩, shr1_lt hc9⟩ | exact ⟨(x, mulP c c, k >>> UInt64.ofNat 1), .cons rfl (.cons rfl (.cons rfl (.nil))), ⟨hx, by rw [pow_even hc14]; exact hJ, rfl⟩, shr1_lt hc9⟩
    · skip
      refine C_skip ?_
      refine C_region ?_
      refine s_v (y_move rfl) ?_
      refine s_v (y_move rfl) ?_
      refine s_call rfl cl_modp_Mul (modp_Mul_ok _ _) ?_
      rintro _ _ ⟨rfl, rfl⟩
      refine ⟨_, rfl, ?_⟩
      refine s_v (y_assign rfl) ?_
      refine G_nil ?_
      refine C_region ?_
      refine s_v (y_move rfl) ?_
      refine s_v (y_bin rfl rfl (fun _ => v_shr64 _ 1 (by decide))) ?_
      refine s_v (y_assign rfl) ?_
      refine G_nil ?_
      first | exact ⟨(mulP x c, mulP c c, k >>> UInt64.ofNat 1), .cons rfl (.cons rfl (.cons rfl (.nil))), ⟨mulP_lt _ _, by rw [pow_odd hc14]; exact hJ, rfl⟩, shr1_lt hc9⟩ | exact ⟨(x, mulP c c, k >>> UInt64.ofNat 1), .cons rfl (.cons rfl (.cons rfl (.nil))), ⟨hx, by rw [pow_even hc14]; exact hJ, rfl⟩, shr1_lt hc9⟩
  · skip
    refine C_exit ?_
    refine C_seq ?_
    refine C_region ?_
    refine s_v (y_move rfl) ?_
    refine s_v (y_assign rfl) ?_
    refine G_nil ?_
    refine C_ret ?_
    refine ⟨_, (.tmp rfl .nil), ?_, rfl⟩
    rw [← pow_end hx hJ hc9]
    rfl

theorem ref1_PowP_ok {w : World} (a b : UInt64) :
    Calls Pr N_ref1_PowP #[u64v a, u64v b] w fun e w' => e = .returned (u64v (powP a b)) ∧ w = w' := by
  refine calls (args := [u64v a, u64v b]) fn_ref1_PowP rfl rfl rfl rfl ?_
  refine C_seq ?_
  refine C_region ?_
  refine s_v (y_assign (v := u64v 0) rfl) ?_
  refine G_nil ?_
  refine C_seq ?_
  refine C_region ?_
  refine s_v (y_assign (v := u64v 1) rfl) ?_
  refine G_nil ?_
  refine C_seq ?_
  refine C_region ?_
  refine s_v (y_move rfl) ?_
  refine s_v (y_bin rfl rfl (fun _ => v_rem64 _ 2305843009213693951 (by decide))) ?_
  refine s_v (y_assign rfl) ?_
  refine G_nil ?_
  refine C_seq ?_
  refine C_seq ?_
  refine C_region ?_
  refine s_v (y_assign rfl) ?_
  refine G_nil ?_
  refine C_block ?_
  refine C_loop (α := Nat) (fun j => [(0, u64v (redP a)), (1, u64v b), (5, u64v (powS a b j)), (6, iv ((j : Int) - 1))]) (fun j w' => j ≤ 64 ∧ w = w') (fun j => j) 64 (.cons rfl (.cons rfl (.cons (by rw [powS_top]; rfl) (.cons rfl .nil)))) ⟨Nat.le_refl _, rfl⟩ ?_
  rintro j _ ⟨hj, rfl⟩
  refine C_seq ?_
  refine C_seq ?_
  refine C_region ?_
  refine s_v (y_move rfl) ?_
  refine s_v (y_bin rfl rfl (fun _ => v_geq)) ?_
  refine G_nil ?_
  refine C_if rfl (fun hc10 => ?_) (fun hc10 => ?_)
  · skip
    obtain ⟨i, rfl⟩ : ∃ i, j = i + 1 := ⟨j - 1, by omega⟩
    have e9 : (UInt64.ofNat i).toNat = i := u64_ofNat (by omega)
    refine C_skip ?_
    refine C_seq ?_
    refine C_block ?_
    refine C_seq ?_
    refine C_region ?_
    refine s_v (y_move rfl) ?_
    refine s_v (y_move rfl) ?_
    refine s_call rfl cl_ref1_MulP (ref1_MulP_ok _ _) ?_
    rintro _ _ ⟨rfl, rfl⟩
    refine ⟨_, rfl, ?_⟩
    refine s_v (y_assign rfl) ?_
    refine G_nil ?_
    refine C_seq ?_
    refine C_region ?_
    refine s_v (y_move rfl) ?_
    refine s_v (y_move rfl) ?_
    refine s_v (y_conv rfl (cv_i64_u64 (show ((i + 1 : Nat) : Int) - 1 = ((i : Nat) : Int) by omega) u_int u_uint)) ?_
    refine s_v (y_bin rfl rfl (fun _ => v_shr64 _ _ (by rw [u64_ofNat (by omega)]; omega))) ?_
    refine s_v (y_bin rfl rfl (fun _ => v_and64 _ 1)) ?_
    refine s_v (y_bin rfl rfl (fun _ => v_eql64 _ 1)) ?_
    refine G_nil ?_
    refine C_if rfl (fun hc21 => ?_) (fun hc21 => ?_)
    · skip
      refine C_region ?_
      refine s_v (y_move rfl) ?_
      refine s_v (y_move rfl) ?_
      refine s_call rfl cl_ref1_MulP (ref1_MulP_ok _ _) ?_
      rintro _ _ ⟨rfl, rfl⟩
      refine ⟨_, rfl, ?_⟩
      refine s_v (y_assign rfl) ?_
      refine G_nil ?_
      refine C_region ?_
      refine s_v (y_move rfl) ?_
      refine s_v (y_bin rfl rfl (fun _ => v_sub (by omega))) ?_
      refine s_v (y_assign rfl) ?_
      refine G_nil ?_
      rw [e9] at hc21
      first | exact ⟨i, .cons rfl (.cons rfl (.cons (by rw [← powS_odd (by omega) hc21]; rfl) (.cons (some_iv (by omega)) .nil))), ⟨by omega, rfl⟩, by omega⟩ | exact ⟨i, .cons rfl (.cons rfl (.cons (by rw [← powS_even (by omega) hc21]; rfl) (.cons (some_iv (by omega)) .nil))), ⟨by omega, rfl⟩, by omega⟩
    · skip
      refine C_skip ?_
      refine C_region ?_
      refine s_v (y_move rfl) ?_
      refine s_v (y_bin rfl rfl (fun _ => v_sub (by omega))) ?_
      refine s_v (y_assign rfl) ?_
      refine G_nil ?_
      rw [e9] at hc21
      first | exact ⟨i, .cons rfl (.cons rfl (.cons (by rw [← powS_odd (by omega) hc21]; rfl) (.cons (some_iv (by omega)) .nil))), ⟨by omega, rfl⟩, by omega⟩ | exact ⟨i, .cons rfl (.cons rfl (.cons (by rw [← powS_even (by omega) hc21]; rfl) (.cons (some_iv (by omega)) .nil))), ⟨by omega, rfl⟩, by omega⟩
  · skip
    refine C_exit ?_
    refine C_seq ?_
    refine C_region ?_
    refine s_v (y_move rfl) ?_
    refine s_v (y_assign rfl) ?_
    refine G_nil ?_
    refine C_ret ?_
    obtain rfl : j = 0 := by omega
    refine ⟨_, (.tmp rfl .nil), ?_, rfl⟩
    rw [← powS_zero]
    rfl

theorem group_Right_ok {w : World} (x : UInt64) :
    Calls Pr N_group_Right #[u64v x] w fun e w' => e = .returned (.bool (inG x)) ∧ w = w' := by
  refine calls (args := [u64v x]) fn_group_Right rfl rfl rfl rfl ?_
  refine C_seq ?_
  refine C_region ?_
  refine s_v (y_assign rfl) ?_
  refine G_nil ?_
  refine C_seq ?_
  refine C_region ?_
  refine s_v (y_move rfl) ?_
  refine s_v (y_bin rfl rfl (fun _ => v_gtr64 _ 0)) ?_
  refine s_v (y_move rfl) ?_
  refine G_case 5 rfl (fun hg5 => ?_) (fun hg5 => ?_)
  · skip
    try replace hg5 := of_decide_eq_true hg5
    refine s_yes rfl rfl rfl ?_
    refine s_v (y_move rfl) ?_
    refine s_yes rfl rfl rfl ?_
    refine s_v (y_bin rfl rfl (fun _ => v_lss64 _ 2305843009213693951)) ?_
    refine s_v (y_pick rfl rfl) ?_
    refine s_v (y_assign rfl) ?_
    refine G_nil ?_
    refine C_ret ?_
    refine ⟨_, (.tmp rfl .nil), ?_, rfl⟩
    unfold inG
    simp [retV, *]
  · skip
    try replace hg5 := of_decide_eq_false hg5
    refine s_not rfl rfl rfl ?_
    refine s_not rfl rfl rfl ?_
    refine s_v (y_pick rfl rfl) ?_
    refine s_v (y_assign rfl) ?_
    refine G_nil ?_
    refine C_ret ?_
    refine ⟨_, (.tmp rfl .nil), ?_, rfl⟩
    unfold inG
    simp [retV, *]

theorem ref1_Right_ok {w : World} (x : UInt64) :
    Calls Pr N_ref1_Right #[u64v x] w fun e w' => e = .returned (.bool (inG x)) ∧ w = w' := by
  refine calls (args := [u64v x]) fn_ref1_Right rfl rfl rfl rfl ?_
  refine C_seq ?_
  refine C_region ?_
  refine s_v (y_assign rfl) ?_
  refine G_nil ?_
  refine C_seq ?_
  refine C_region ?_
  refine s_v (y_move rfl) ?_
  refine s_v (y_bin rfl rfl (fun _ => v_geq64 _ 1)) ?_
  refine s_v (y_move rfl) ?_
  refine G_case 5 rfl (fun hg5 => ?_) (fun hg5 => ?_)
  · skip
    try replace hg5 := of_decide_eq_true hg5
    refine s_yes rfl rfl rfl ?_
    refine s_v (y_move rfl) ?_
    refine s_yes rfl rfl rfl ?_
    refine s_v (y_bin rfl rfl (fun _ => v_lss64 _ 2305843009213693951)) ?_
    refine s_v (y_pick rfl rfl) ?_
    refine s_v (y_assign rfl) ?_
    refine G_nil ?_
    refine C_ret ?_
    refine ⟨_, (.tmp rfl .nil), ?_, rfl⟩
    unfold inG
    rw [← ge_one]
    simp [retV, *]
  · skip
    try replace hg5 := of_decide_eq_false hg5
    refine s_not rfl rfl rfl ?_
    refine s_not rfl rfl rfl ?_
    refine s_v (y_pick rfl rfl) ?_
    refine s_v (y_assign rfl) ?_
    refine G_nil ?_
    refine C_ret ?_
    refine ⟨_, (.tmp rfl .nil), ?_, rfl⟩
    unfold inG
    rw [← ge_one]
    simp [retV, *]

theorem group_Times_ok {w : World} (x y : UInt64) :
    Calls Pr N_group_Times #[u64v x, u64v y] w fun e w' => e = .returned (u64v (timesP x y)) ∧ w = w' := by
  refine calls (args := [u64v x, u64v y]) fn_group_Times rfl rfl rfl rfl ?_
  refine C_seq ?_
  refine C_region ?_
  refine s_v (y_assign (v := u64v 0) rfl) ?_
  refine G_nil ?_
  refine C_seq ?_
  refine C_seq ?_
  refine C_region ?_
  refine s_v (y_move rfl) ?_
  refine s_call rfl cl_group_Right (group_Right_ok _) ?_
  rintro _ _ ⟨rfl, rfl⟩
  refine ⟨_, rfl, ?_⟩
  refine s_v (y_un rfl un_not) ?_
  refine G_nil ?_
  refine C_cond rfl (fun hc7 => ?_) (fun hc7 => ?_)
  · skip
    refine C_seq ?_
    refine C_region ?_
    refine s_v (y_assign (v := u64v 0) rfl) ?_
    refine G_nil ?_
    refine C_ret ?_
    refine ⟨_, (.tmp rfl .nil), ?_, rfl⟩
    unfold timesP
    simp only [Bool.not_eq_true', Bool.not_eq_false'] at hc7
    rw [hc7]
    rfl
  · skip
    refine C_skip ?_
    refine C_seq ?_
    refine C_region ?_
    refine s_v (y_move rfl) ?_
    refine s_v (y_move rfl) ?_
    refine s_call rfl cl_modp_Pow (modp_Pow_ok _ _) ?_
    rintro _ _ ⟨rfl, rfl⟩
    refine ⟨_, rfl, ?_⟩
    refine s_v (y_assign rfl) ?_
    refine G_nil ?_
    refine C_ret ?_
    refine ⟨_, (.tmp rfl .nil), ?_, rfl⟩
    unfold timesP
    simp only [Bool.not_eq_true', Bool.not_eq_false'] at hc7
    rw [hc7]
    rfl

theorem ref1_Times_ok {w : World} (x y : UInt64) :
    Calls Pr N_ref1_Times #[u64v x, u64v y] w fun e w' => e = .returned (u64v (timesP x y)) ∧ w = w' := by
  refine calls (args := [u64v x, u64v y]) fn_ref1_Times rfl rfl rfl rfl ?_
  refine C_seq ?_
  refine C_region ?_
  refine s_v (y_assign (v := u64v 0) rfl) ?_
  refine G_nil ?_
  refine C_seq ?_
  refine C_seq ?_
  refine C_region ?_
  refine s_v (y_move rfl) ?_
  refine s_call rfl cl_ref1_Right (ref1_Right_ok _) ?_
  rintro _ _ ⟨rfl, rfl⟩
  refine ⟨_, rfl, ?_⟩
  refine s_v (y_un rfl un_not) ?_
  refine G_nil ?_
  refine C_cond rfl (fun hc7 => ?_) (fun hc7 => ?_)
  · skip
    refine C_seq ?_
    refine C_region ?_
    refine s_v (y_assign (v := u64v 0) rfl) ?_
    refine G_nil ?_
    refine C_ret ?_
    refine ⟨_, (.tmp rfl .nil), ?_, rfl⟩
    unfold timesP
    simp only [Bool.not_eq_true', Bool.not_eq_false'] at hc7
    rw [hc7]
    rfl
  · skip
    refine C_skip ?_
    refine C_seq ?_
    refine C_region ?_
    refine s_v (y_move rfl) ?_
    refine s_v (y_move rfl) ?_
    refine s_call rfl cl_ref1_PowP (ref1_PowP_ok _ _) ?_
    rintro _ _ ⟨rfl, rfl⟩
    refine ⟨_, rfl, ?_⟩
    refine s_v (y_assign rfl) ?_
    refine G_nil ?_
    refine C_ret ?_
    refine ⟨_, (.tmp rfl .nil), ?_, rfl⟩
    unfold timesP
    simp only [Bool.not_eq_true', Bool.not_eq_false'] at hc7
    rw [hc7]
    rfl

theorem group_Base_ok {w : World} (y : UInt64) :
    Calls Pr N_group_Base #[u64v y] w fun e w' => e = .returned (u64v (baseP y)) ∧ w = w' := by
  refine calls (args := [u64v y]) fn_group_Base rfl rfl rfl rfl ?_
  refine C_seq ?_
  refine C_region ?_
  refine s_v (y_assign (v := u64v 0) rfl) ?_
  refine G_nil ?_
  refine C_seq ?_
  refine C_region ?_
  refine s_v (y_move rfl) ?_
  refine s_call rfl cl_group_Times (group_Times_ok 37 _) ?_
  rintro _ _ ⟨rfl, rfl⟩
  refine ⟨_, rfl, ?_⟩
  refine s_v (y_assign rfl) ?_
  refine G_nil ?_
  refine C_ret ?_
  exact ⟨_, (.tmp rfl .nil), rfl, rfl⟩

theorem ref1_Base_ok {w : World} (y : UInt64) :
    Calls Pr N_ref1_Base #[u64v y] w fun e w' => e = .returned (u64v (baseP y)) ∧ w = w' := by
  refine calls (args := [u64v y]) fn_ref1_Base rfl rfl rfl rfl ?_
  refine C_seq ?_
  refine C_region ?_
  refine s_v (y_assign (v := u64v 0) rfl) ?_
  refine G_nil ?_
  refine C_seq ?_
  refine C_region ?_
  refine s_v (y_move rfl) ?_
  refine s_call rfl cl_ref1_Times (ref1_Times_ok 37 _) ?_
  rintro _ _ ⟨rfl, rfl⟩
  refine ⟨_, rfl, ?_⟩
  refine s_v (y_assign rfl) ?_
  refine G_nil ?_
  refine C_ret ?_
  exact ⟨_, (.tmp rfl .nil), rfl, rfl⟩

theorem scalar_Of_ok {F : Nat → Prop} {w : World} {v : Value} {bs : List UInt8} (hv : Kd.u8.Sl F w v bs) :
    Calls Pr N_scalar_Of #[v] w fun e w' => e = .returned (u64v (ofN bs)) ∧ Ext w w' := by
  have hvl := hv.len_le
  simp only [maxLen] at hvl
  refine calls (args := [v]) fn_scalar_Of rfl rfl rfl rfl ?_
  refine C_seq ?_
  refine C_region ?_
  refine s_v (y_assign (v := u64v 0) rfl) ?_
  refine G_nil ?_
  refine C_seq ?_
  refine C_region ?_
  refine s_v (y_assign (v := u64v 0) rfl) ?_
  refine G_nil ?_
  refine C_seq ?_
  refine C_seq ?_
  refine C_region ?_
  refine s_v (y_move rfl) ?_
  refine s_v (y_len rfl hv u_sl_uint8) ?_
  refine s_v (y_move rfl) ?_
  refine G_nil ?_
  refine C_block ?_
  refine C_loop (α := Nat) (fun k => [(3, u64v (ofN (bs.take k))), (6, v), (7, iv (bs.length : Int)), (8, iv (k : Int))]) (fun k w' => k ≤ bs.length ∧ Below w.heap.size w w') (fun k => bs.length - k) 0 (.cons rfl (.cons rfl (.cons rfl (.cons rfl (.nil))))) ⟨Nat.zero_le _, (Below.refl _ _)⟩ ?_
  rintro k wL0 ⟨hk, hBL⟩
  refine C_seq ?_
  refine C_region ?_
  refine s_v (y_bin rfl rfl (fun _ => v_lss)) ?_
  refine G_nil ?_
  refine C_seq ?_
  refine C_if rfl (fun hc9 => ?_) (fun hc9 => ?_)
  · skip
    replace hk : k < bs.length := by omega
    obtain ⟨c, hck⟩ : ∃ c, bs[k]? = some c := ⟨_, List.getElem?_eq_getElem (by omega)⟩
    refine C_skip ?_
    refine C_seq ?_
    refine C_block ?_
    refine C_seq ?_
    refine C_region ?_
    refine s_idx rfl rfl (hv.keep fun k hk _ => hBL.block k hk) (by omega) hck u_sl_uint8 i_uint8 ?_
    rintro ad10 _ hF10 rfl hc10
    refine s_v (y_load rfl (fun _ e => e ▸ hc10) u_uint8) ?_
    refine s_v (y_assign rfl) ?_
    refine G_nil ?_
    refine C_region ?_
    refine s_v (y_move rfl) ?_
    refine s_call rfl cl_scalar_Mul (scalar_Mul_ok _ 256) ?_
    rintro _ w13 ⟨rfl, hx13⟩
    refine ⟨_, rfl, ?_⟩
    refine s_v (y_move rfl) ?_
    refine s_v (y_conv rfl (cv_u8_u64 _ u_uint8 u_uint64)) ?_
    refine s_call rfl cl_scalar_Add (scalar_Add_ok _ _) ?_
    rintro _ _ ⟨rfl, rfl⟩
    refine ⟨_, rfl, ?_⟩
    refine s_v (y_assign rfl) ?_
    refine G_nil ?_
    refine C_region ?_
    refine s_v (y_bin rfl rfl (fun _ => v_add (by omega))) ?_
    refine s_v (y_move rfl) ?_
    refine G_nil ?_
    refine ⟨k + 1, .cons (by rw [take_snoc _ k c hck, ofN_snoc]; rfl) (.cons rfl (.cons rfl (.cons rfl .nil))), ⟨by omega, (Below.ext hBL hx13 hBL.size)⟩, by omega⟩
  · skip
    obtain rfl : k = bs.length := by omega
    refine C_exit ?_
    refine C_seq ?_
    refine C_region ?_
    refine s_v (y_move rfl) ?_
    refine s_v (y_assign rfl) ?_
    refine G_nil ?_
    refine C_ret ?_
    refine ⟨_, (.tmp rfl .nil), ?_, hBL⟩
    rw [List.take_length]
    rfl

theorem ref1_OfN_ok {F : Nat → Prop} {w : World} {v : Value} {bs : List UInt8} (hv : Kd.u8.Sl F w v bs) :
    Calls Pr N_ref1_OfN #[v] w fun e w' => e = .returned (u64v (ofN bs)) ∧ Ext w w' := by
  have hvl := hv.len_le
  simp only [maxLen] at hvl
  refine calls (args := [v]) fn_ref1_OfN rfl rfl rfl rfl ?_
  refine C_seq ?_
  refine C_region ?_
  refine s_v (y_assign (v := u64v 0) rfl) ?_
  refine G_nil ?_
  refine C_seq ?_
  refine C_region ?_
  refine s_v (y_assign (v := u64v 0) rfl) ?_
  refine G_nil ?_
  refine C_seq ?_
  refine C_seq ?_
  refine C_region ?_
  refine s_v (y_assign rfl) ?_
  refine G_nil ?_
  refine C_block ?_
  refine C_loop (α := Nat) (fun k => [(0, v), (3, u64v (ofN (bs.take k))), (4, iv (k : Int))]) (fun k w' => k ≤ bs.length ∧ Below w.heap.size w w') (fun k => bs.length - k) 0 (.cons rfl (.cons rfl (.cons rfl (.nil)))) ⟨Nat.zero_le _, (Below.refl _ _)⟩ ?_
  rintro k wL0 ⟨hk, hBL⟩
  refine C_seq ?_
  refine C_seq ?_
  refine C_region ?_
  refine s_v (y_move rfl) ?_
  refine s_v (y_move rfl) ?_
  refine s_v (y_len rfl hv u_sl_uint8) ?_
  refine s_v (y_bin rfl rfl (fun _ => v_lss)) ?_
  refine G_nil ?_
  refine C_if rfl (fun hc8 => ?_) (fun hc8 => ?_)
  · skip
    replace hk : k < bs.length := by omega
    obtain ⟨c, hck⟩ : ∃ c, bs[k]? = some c := ⟨_, List.getElem?_eq_getElem (by omega)⟩
    refine C_skip ?_
    refine C_seq ?_
    refine C_block ?_
    have hSd : (fun w' => Below w.heap.size w w') wL0.drew := (Below.ext hBL (Ext.drew wL0) hBL.size)
    refine C_draw (S := fun w' => Below w.heap.size w w') rfl rfl ?_
    refine A_take 0 rfl (y_move rfl) hSd (fun _ _ _ h => h) ?_
    refine A_take 2 rfl (y_move rfl) hSd (fun _ _ _ h => h) ?_
    refine A_take 3 rfl (y_move rfl) hSd (fun _ _ _ h => h) ?_
    refine A_idx 4 rfl hv rfl rfl (by omega) hck u_sl_uint8 i_uint8 hSd (fun _ _ _ h => h) ?_
    rintro ad15 _ hF15 rfl hc15
    refine A_take 5 rfl (y_load rfl (fun _ e => (hc15.keep fun hk => e.block _ hk)) u_uint8) hSd (fun _ _ _ h => h) ?_
    refine A_take 6 rfl (y_conv rfl (cv_u8_u64 _ u_uint8 u_uint64)) hSd (fun _ _ _ h => h) ?_
    refine A_act 1 rfl ?_
    refine s_call rfl cl_ref1_MulN (ref1_MulN_ok _ 256) ?_
    rintro _ _ ⟨rfl, rfl⟩
    refine ⟨_, rfl, ?_⟩
    have hSd1 : (fun w' => Below w.heap.size w w') wL0.drew := (Below.ext hBL (Ext.drew wL0) hBL.size)
    refine G_nil ⟨hSd1, ?_⟩
    refine A_act 7 rfl ?_
    refine s_call rfl cl_ref1_AddN (ref1_AddN_ok _ _) ?_
    rintro _ _ ⟨rfl, rfl⟩
    refine ⟨_, rfl, ?_⟩
    have hSd7 : (fun w' => Below w.heap.size w w') wL0.drew := (Below.ext hBL (Ext.drew wL0) hBL.size)
    refine G_nil ⟨hSd7, ?_⟩
    refine A_take 8 rfl (y_assign rfl) hSd7 (fun _ _ _ h => h) ?_
    refine A_done ?_
    refine C_region ?_
    refine s_v (y_move rfl) ?_
    refine s_v (y_bin rfl rfl (fun _ => v_add (by omega))) ?_
    refine s_v (y_assign rfl) ?_
    refine G_nil ?_
    refine ⟨k + 1, .cons rfl (.cons (by rw [take_snoc _ k c hck, ofN_snoc]; rfl) (.cons rfl .nil)), ⟨by omega, (Below.ext hBL (Ext.drew wL0) hBL.size)⟩, by omega⟩
  · skip
    obtain rfl : k = bs.length := by omega
    refine C_exit ?_
    refine C_seq ?_
    refine C_region ?_
    refine s_v (y_move rfl) ?_
    refine s_v (y_assign rfl) ?_
    refine G_nil ?_
    refine C_ret ?_
    refine ⟨_, (.tmp rfl .nil), ?_, hBL⟩
    rw [List.take_length]
    rfl

theorem group_Bytes_ok {F : Nat → Prop} {w : World} (x : UInt64) (hF : ∀ k, w.heap.size ≤ k → F k) :
    Calls Pr N_group_Bytes #[u64v x] w fun e w' => ∃ r, e = .returned r ∧ Kd.u8.Own F w.heap.size ty_uint8 w' r (be64 x) ∧ Ext w w' := by
  refine calls (args := [u64v x]) fn_group_Bytes rfl rfl rfl rfl ?_
  refine C_seq ?_
  refine C_region ?_
  refine s_v (y_assign rfl) ?_
  refine G_nil ?_
  refine C_seq ?_
  refine C_region ?_
  refine s_v (y_move rfl) ?_
  refine s_call rfl cl_words_Put64 (words_Put64_ok _ hF (Kd.Sl.nil Kd.u8 F _) (by simp)) ?_
  rintro _ w4 ⟨v4, rfl, h4, hx4⟩
  refine ⟨_, rfl, ?_⟩
  refine s_v (y_assign rfl) ?_
  refine G_nil ?_
  refine C_ret ?_
  refine ⟨_, (.tmp rfl .nil), _, rfl, ?_, hx4⟩
  simpa [retV] using h4

theorem ref1_Bytes_ok {F : Nat → Prop} {w : World} (x : UInt64) (hF : ∀ k, w.heap.size ≤ k → F k) :
    Calls Pr N_ref1_Bytes #[u64v x] w fun e w' => ∃ r, e = .returned r ∧ Kd.u8.Own F w.heap.size ty_uint8 w' r (be64 x) ∧ Ext w w' := by
  refine calls (args := [u64v x]) fn_ref1_Bytes rfl rfl rfl rfl ?_
  refine C_seq ?_
  refine C_region ?_
  refine s_v (y_assign rfl) ?_
  refine G_nil ?_
  refine C_seq ?_
  refine C_region ?_
  refine s_v (y_move rfl) ?_
  refine s_call rfl cl_ref1_Put64 (ref1_Put64_ok _ hF (Kd.Sl.nil Kd.u8 F _) (by simp)) ?_
  rintro _ w4 ⟨v4, rfl, h4, hx4⟩
  refine ⟨_, rfl, ?_⟩
  refine s_v (y_assign rfl) ?_
  refine G_nil ?_
  refine C_ret ?_
  refine ⟨_, (.tmp rfl .nil), _, rfl, ?_, hx4⟩
  simpa [retV] using h4

theorem prodP_at {l : List UInt64} {k : Nat} {y x : UInt64} (h : l[k]? = some y) : prodP (l.drop k) x = bif inG y then prodP (l.drop (k + 1)) (mulP x y) else 0 := by
  obtain ⟨h1, h2⟩ := List.getElem?_eq_some_iff.1 h
  rw [List.drop_eq_getElem_cons h1, h2]
  rfl

theorem group_Product_ok {F : Nat → Prop} {w : World} {v : Value} {l : List UInt64} (hv : Kd.u64.Sl F w v l) :
    Calls Pr N_group_Product #[v] w fun e w' => e = .returned (u64v (prodP l 1)) ∧ w = w' := by
  have hvl := hv.len_le
  simp only [maxLen] at hvl
  refine calls (args := [v]) fn_group_Product rfl rfl rfl rfl ?_
  refine C_seq ?_
  refine C_region ?_
  refine s_v (y_assign (v := u64v 0) rfl) ?_
  refine G_nil ?_
  refine C_seq ?_
  refine C_region ?_
  refine s_v (y_assign (v := u64v 1) rfl) ?_
  refine G_nil ?_
  refine C_seq ?_
  refine C_seq ?_
  refine C_region ?_
  refine s_v (y_move rfl) ?_
  refine s_v (y_len rfl hv u_sl_uint64) ?_
  refine s_v (y_move rfl) ?_
  refine G_nil ?_
  refine C_block ?_
  refine C_loop (α := Nat × UInt64) (fun (k, x) => [(3, u64v x), (6, v), (7, iv (l.length : Int)), (8, iv (k : Int))]) (fun (k, x) w' => k ≤ l.length ∧ prodP (l.drop k) x = prodP l 1 ∧ w = w') (fun (k, x) => l.length - k) (0, 1) (.cons rfl (.cons rfl (.cons rfl (.cons rfl (.nil))))) ⟨Nat.zero_le _, rfl, rfl⟩ ?_
  rintro ⟨k, x⟩ _ ⟨hk, hJ, rfl⟩
  refine C_seq ?_
  refine C_region ?_
  refine s_v (y_bin rfl rfl (fun _ => v_lss)) ?_
  refine G_nil ?_
  refine C_seq ?_
  refine C_if rfl (fun hc9 => ?_) (fun hc9 => ?_)
  · skip
    replace hk : k < l.length := by omega
    obtain ⟨y, hyk⟩ : ∃ y, l[k]? = some y := ⟨_, List.getElem?_eq_getElem (by omega)⟩
    rw [prodP_at hyk] at hJ
    refine C_skip ?_
    refine C_seq ?_
    refine C_block ?_
    refine C_seq ?_
    refine C_region ?_
    refine s_idx rfl rfl hv (by omega) hyk u_sl_uint64 i_uint64 ?_
    rintro ad10 _ hF10 rfl hc10
    refine s_v (y_load rfl (fun _ e => e ▸ hc10) u_uint64) ?_
    refine s_v (y_assign rfl) ?_
    refine G_nil ?_
    refine C_seq ?_
    refine C_seq ?_
    refine C_region ?_
    refine s_v (y_move rfl) ?_
    refine s_call rfl cl_group_Right (group_Right_ok _) ?_
    rintro _ _ ⟨rfl, rfl⟩
    refine ⟨_, rfl, ?_⟩
    refine s_v (y_un rfl un_not) ?_
    refine G_nil ?_
    refine C_cond rfl (fun hc14 => ?_) (fun hc14 => ?_)
    · skip
      simp only [Bool.not_eq_true', Bool.not_eq_false'] at hc14
      rw [hc14] at hJ
      refine C_seq ?_
      refine C_region ?_
      refine s_v (y_assign (v := u64v 0) rfl) ?_
      refine G_nil ?_
      refine C_ret ?_
      refine ⟨_, (.tmp rfl .nil), ?_, rfl⟩
      first | (rw [List.drop_length] at hJ; rw [← hJ]; rfl) | (rw [← hJ]; rfl)
    · skip
      simp only [Bool.not_eq_true', Bool.not_eq_false'] at hc14
      rw [hc14] at hJ
      refine C_skip ?_
      refine C_region ?_
      refine s_v (y_move rfl) ?_
      refine s_v (y_move rfl) ?_
      refine s_call rfl cl_modp_Mul (modp_Mul_ok _ _) ?_
      rintro _ _ ⟨rfl, rfl⟩
      refine ⟨_, rfl, ?_⟩
      refine s_v (y_assign rfl) ?_
      refine G_nil ?_
      refine C_region ?_
      refine s_v (y_bin rfl rfl (fun _ => v_add (by omega))) ?_
      refine s_v (y_move rfl) ?_
      refine G_nil ?_
      exact ⟨(k + 1, mulP x y), .cons rfl (.cons rfl (.cons rfl (.cons rfl (.nil)))), ⟨by omega, hJ, rfl⟩, by simp only []; omega⟩
  · skip
    obtain rfl : k = l.length := by omega
    refine C_exit ?_
    refine C_seq ?_
    refine C_region ?_
    refine s_v (y_move rfl) ?_
    refine s_v (y_assign rfl) ?_
    refine G_nil ?_
    refine C_ret ?_
    refine ⟨_, (.tmp rfl .nil), ?_, rfl⟩
    first | (rw [List.drop_length] at hJ; rw [← hJ]; rfl) | (rw [← hJ]; rfl)

theorem ref1_Product_ok {F : Nat → Prop} {w : World} {v : Value} {l : List UInt64} (hv : Kd.u64.Sl F w v l) :
    Calls Pr N_ref1_Product #[v] w fun e w' => e = .returned (u64v (prodP l 1)) ∧ w = w' := by
  have hvl := hv.len_le
  simp only [maxLen] at hvl
  refine calls (args := [v]) fn_ref1_Product rfl rfl rfl rfl ?_
  refine C_seq ?_
  refine C_region ?_
  refine s_v (y_assign (v := u64v 0) rfl) ?_
  refine G_nil ?_
  refine C_seq ?_
  refine C_region ?_
  refine s_v (y_assign (v := u64v 1) rfl) ?_
  refine G_nil ?_
  refine C_seq ?_
  refine C_seq ?_
  refine C_region ?_
  refine s_v (y_assign rfl) ?_
  refine G_nil ?_
  refine C_block ?_
  refine C_loop (α := Nat × UInt64) (fun (k, x) => [(0, v), (3, u64v x), (4, iv (k : Int))]) (fun (k, x) w' => k ≤ l.length ∧ prodP (l.drop k) x = prodP l 1 ∧ w = w') (fun (k, x) => l.length - k) (0, 1) (.cons rfl (.cons rfl (.cons rfl (.nil)))) ⟨Nat.zero_le _, rfl, rfl⟩ ?_
  rintro ⟨k, x⟩ _ ⟨hk, hJ, rfl⟩
  refine C_seq ?_
  refine C_seq ?_
  refine C_region ?_
  refine s_v (y_move rfl) ?_
  refine s_v (y_move rfl) ?_
  refine s_v (y_len rfl hv u_sl_uint64) ?_
  refine s_v (y_bin rfl rfl (fun _ => v_lss)) ?_
  refine G_nil ?_
  refine C_if rfl (fun hc8 => ?_) (fun hc8 => ?_)
  · skip
    replace hk : k < l.length := by omega
    obtain ⟨y, hyk⟩ : ∃ y, l[k]? = some y := ⟨_, List.getElem?_eq_getElem (by omega)⟩
    rw [prodP_at hyk] at hJ
    refine C_skip ?_
    refine C_seq ?_
    refine C_block ?_
    refine C_seq ?_
    refine C_seq ?_
    refine C_region ?_
    refine s_v (y_move rfl) ?_
    refine s_v (y_move rfl) ?_
    refine s_idx rfl rfl hv (by omega) hyk u_sl_uint64 i_uint64 ?_
    rintro ad13 _ hF13 rfl hc13
    refine s_v (y_load rfl (fun _ e => e ▸ hc13) u_uint64) ?_
    refine s_call rfl cl_ref1_Right (ref1_Right_ok _) ?_
    rintro _ _ ⟨rfl, rfl⟩
    refine ⟨_, rfl, ?_⟩
    refine s_v (y_un rfl un_not) ?_
    refine G_nil ?_
    refine C_cond rfl (fun hc16 => ?_) (fun hc16 => ?_)
    · skip
      simp only [Bool.not_eq_true', Bool.not_eq_false'] at hc16
      rw [hc16] at hJ
      refine C_seq ?_
      refine C_region ?_
      refine s_v (y_assign (v := u64v 0) rfl) ?_
      refine G_nil ?_
      refine C_ret ?_
      refine ⟨_, (.tmp rfl .nil), ?_, rfl⟩
      first | (rw [List.drop_length] at hJ; rw [← hJ]; rfl) | (rw [← hJ]; rfl)
    · skip
      simp only [Bool.not_eq_true', Bool.not_eq_false'] at hc16
      rw [hc16] at hJ
      refine C_skip ?_
      refine C_region ?_
      refine s_v (y_move rfl) ?_
      refine s_v (y_move rfl) ?_
      refine s_v (y_move rfl) ?_
      refine s_idx rfl rfl hv (by omega) hyk u_sl_uint64 i_uint64 ?_
      rintro ad20 _ hF20 rfl hc20
      refine s_v (y_load rfl (fun _ e => e ▸ hc20) u_uint64) ?_
      refine s_call rfl cl_ref1_MulP (ref1_MulP_ok _ _) ?_
      rintro _ _ ⟨rfl, rfl⟩
      refine ⟨_, rfl, ?_⟩
      refine s_v (y_assign rfl) ?_
      refine G_nil ?_
      refine C_region ?_
      refine s_v (y_move rfl) ?_
      refine s_v (y_bin rfl rfl (fun _ => v_add (by omega))) ?_
      refine s_v (y_assign rfl) ?_
      refine G_nil ?_
      exact ⟨(k + 1, mulP x y), .cons rfl (.cons rfl (.cons rfl (.nil))), ⟨by omega, hJ, rfl⟩, by simp only []; omega⟩
  · skip
    obtain rfl : k = l.length := by omega
    refine C_exit ?_
    refine C_seq ?_
    refine C_region ?_
    refine s_v (y_move rfl) ?_
    refine s_v (y_assign rfl) ?_
    refine G_nil ?_
    refine C_ret ?_
    refine ⟨_, (.tmp rfl .nil), ?_, rfl⟩
    first | (rw [List.drop_length] at hJ; rw [← hJ]; rfl) | (rw [← hJ]; rfl)
end Go.Proofs.YtdaphjnenookiaaDoor
