/- A layer of lemmas: one operation of the model, one step of a walk; it says nothing of a program. -/
import Derived.Test.YtdaphjnenookiaaDoorL1
namespace Go.Proofs.YtdaphjnenookiaaDoor
open Go
set_option linter.unusedVariables false
set_option linter.unusedSimpArgs false

/-! ## Numbers -/

abbrev u8v (b : UInt8) : Value := .int .u8 (b.toNat : Int)
abbrev u32v (b : UInt32) : Value := .int .u32 (b.toNat : Int)
abbrev u64v (b : UInt64) : Value := .int .u64 (b.toNat : Int)
abbrev iv (n : Int) : Value := .int .i64 n

section
variable {P : Program} {w : World} {t : TypeId}

theorem ofInt8 (a : UInt8) : BitVec.ofInt 8 (a.toNat : Int) = a.toBitVec := by
  apply BitVec.eq_of_toNat_eq
  simp [BitVec.toNat_ofInt]
theorem ofInt32 (a : UInt32) : BitVec.ofInt 32 (a.toNat : Int) = a.toBitVec := by
  apply BitVec.eq_of_toNat_eq
  simp [BitVec.toNat_ofInt]
theorem ofInt64 (a : UInt64) : BitVec.ofInt 64 (a.toNat : Int) = a.toBitVec := by
  apply BitVec.eq_of_toNat_eq
  simp [BitVec.toNat_ofInt]

theorem v_xor8 (a b : UInt8) : (binOp .xor t (u8v a) (u8v b)).run P w = .ok (u8v (a ^^^ b)) w := by
  have h := (a.toBitVec ^^^ b.toBitVec).isLt
  have e : (((a.toBitVec ^^^ b.toBitVec).toNat : Nat) : Int) % 256 = (((a ^^^ b).toNat : Nat) : Int) := by
    show _ = (((a.toBitVec ^^^ b.toBitVec).toNat : Nat) : Int)
    omega
  simp only [binOp, Op.intBits, IntKind.bits, ofInt8, IntKind.wrap_u8, Sem.run_pure, ne_eq, not_true_eq_false, if_false]
  exact congrArg (fun z => Result.ok (Value.int _ z) w) e
theorem v_and8 (a b : UInt8) : (binOp .and t (u8v a) (u8v b)).run P w = .ok (u8v (a &&& b)) w := by
  have h := (a.toBitVec &&& b.toBitVec).isLt
  have e : (((a.toBitVec &&& b.toBitVec).toNat : Nat) : Int) % 256 = (((a &&& b).toNat : Nat) : Int) := by
    show _ = (((a.toBitVec &&& b.toBitVec).toNat : Nat) : Int)
    omega
  simp only [binOp, Op.intBits, IntKind.bits, ofInt8, IntKind.wrap_u8, Sem.run_pure, ne_eq, not_true_eq_false, if_false]
  exact congrArg (fun z => Result.ok (Value.int _ z) w) e
theorem v_or8 (a b : UInt8) : (binOp .or t (u8v a) (u8v b)).run P w = .ok (u8v (a ||| b)) w := by
  have h := (a.toBitVec ||| b.toBitVec).isLt
  have e : (((a.toBitVec ||| b.toBitVec).toNat : Nat) : Int) % 256 = (((a ||| b).toNat : Nat) : Int) := by
    show _ = (((a.toBitVec ||| b.toBitVec).toNat : Nat) : Int)
    omega
  simp only [binOp, Op.intBits, IntKind.bits, ofInt8, IntKind.wrap_u8, Sem.run_pure, ne_eq, not_true_eq_false, if_false]
  exact congrArg (fun z => Result.ok (Value.int _ z) w) e
theorem v_add8 (a b : UInt8) : (binOp .add t (u8v a) (u8v b)).run P w = .ok (u8v (a + b)) w := by
  simp [binOp, Op.intArith, IntKind.wrap_u8]
theorem v_mul8 (a b : UInt8) : (binOp .mul t (u8v a) (u8v b)).run P w = .ok (u8v (a * b)) w := by
  simp [binOp, Op.intArith, IntKind.wrap_u8]
theorem v_sub8 (a b : UInt8) : (binOp .sub t (u8v a) (u8v b)).run P w = .ok (u8v (a - b)) w := by
  have e : ((a.toNat : Int) - b.toNat) % 256 = (((a - b).toNat : Nat) : Int) := by
    rw [UInt8.toNat_sub]
    have := a.toNat_lt
    have := b.toNat_lt
    omega
  simp only [binOp, Op.intArith, IntKind.wrap_u8, e, Sem.run_pure, ne_eq, not_true_eq_false, if_false]
theorem v_rem8 (a b : UInt8) (hb : b ≠ 0) : (binOp .rem t (u8v a) (u8v b)).run P w = .ok (u8v (a % b)) w := by
  have h0 : ¬ b.toNat = 0 := fun h => hb (UInt8.toNat_inj.1 (by simpa using h))
  have e : ((a.toNat : Int)).tmod b.toNat = (((a % b).toNat : Nat) : Int) := by
    rw [UInt8.toNat_mod, IntWalk.rem_in _ _ (by omega)]
    rfl
  have h1 : ¬ (b.toNat : Int) = 0 := by omega
  simp only [binOp, Op.intDiv, h1, e, Sem.run_pure, ne_eq, not_true_eq_false, if_false]
theorem v_quo8 (a b : UInt8) (hb : b ≠ 0) : (binOp .quo t (u8v a) (u8v b)).run P w = .ok (u8v (a / b)) w := by
  have h0 : ¬ b.toNat = 0 := fun h => hb (UInt8.toNat_inj.1 (by simpa using h))
  have h2 := a.toNat_lt
  have e : IntKind.u8.wrap ((a.toNat : Int).tdiv b.toNat) = (((a / b).toNat : Nat) : Int) := by
    rw [UInt8.toNat_div, IntWalk.u8_quo (a.toNat : Int) (b.toNat : Int) ⟨by omega, by omega, by omega⟩]
    rfl
  have h1 : ¬ (b.toNat : Int) = 0 := by omega
  simp only [binOp, Op.intDiv, h1, e, Sem.run_pure, ne_eq, not_true_eq_false, if_false]
theorem v_lss8 (a b : UInt8) : (binOp .lss t (u8v a) (u8v b)).run P w = .ok (.bool (decide (a < b))) w := by
  simp [binOp, Op.intCmp, UInt8.lt_iff_toNat_lt]
theorem v_leq8 (a b : UInt8) : (binOp .leq t (u8v a) (u8v b)).run P w = .ok (.bool (decide (a ≤ b))) w := by
  simp [binOp, Op.intCmp, UInt8.le_iff_toNat_le]
theorem v_gtr8 (a b : UInt8) : (binOp .gtr t (u8v a) (u8v b)).run P w = .ok (.bool (decide (b < a))) w := by
  simp [binOp, Op.intCmp, UInt8.lt_iff_toNat_lt]
theorem v_geq8 (a b : UInt8) : (binOp .geq t (u8v a) (u8v b)).run P w = .ok (.bool (decide (b ≤ a))) w := by
  simp [binOp, Op.intCmp, UInt8.le_iff_toNat_le]
theorem v_eql8 (a b : UInt8) : (binOp .eql t (u8v a) (u8v b)).run P w = .ok (.bool (decide (a = b))) w := by
  have h : (a.toNat : Int) = b.toNat ↔ a = b := by rw [← UInt8.toNat_inj]; omega
  by_cases e : a = b
  · subst e; simp [binOp, Op.intCmp]
  · have e' : ¬ (a.toNat : Int) = b.toNat := fun x => e (h.1 x)
    simp only [binOp, Op.intCmp, Sem.run_pure, ne_eq, not_true_eq_false, if_false, beq_eq_false_iff_ne.2 e', bne_iff_ne.2 e', e, decide_false, decide_true, not_false_eq_true]
theorem v_neq8 (a b : UInt8) : (binOp .neq t (u8v a) (u8v b)).run P w = .ok (.bool (decide (a ≠ b))) w := by
  have h : (a.toNat : Int) = b.toNat ↔ a = b := by rw [← UInt8.toNat_inj]; omega
  by_cases e : a = b
  · subst e; simp [binOp, Op.intCmp]
  · have e' : ¬ (a.toNat : Int) = b.toNat := fun x => e (h.1 x)
    simp only [binOp, Op.intCmp, Sem.run_pure, ne_eq, not_true_eq_false, if_false, beq_eq_false_iff_ne.2 e', bne_iff_ne.2 e', e, decide_false, decide_true, not_false_eq_true]
theorem v_shr8 {K : IntKind} (a : UInt8) (k : Nat) (hk : k < 8) : (binOp .shr t (u8v a) (.int K (k : Int))).run P w = .ok (u8v (a >>> UInt8.ofNat k)) w := by
  have h1 : min k 8 = k := by omega
  have e : (a.toNat : Int).fdiv (2 ^ k) = (((a >>> UInt8.ofNat k).toNat : Nat) : Int) := by
    have h2 : (UInt8.ofNat k).toNat % 8 = k := by simp; omega
    rw [UInt8.toNat_shiftRight, h2, Nat.shiftRight_eq_div_pow, Int.fdiv_eq_ediv_of_nonneg _ (by exact_mod_cast Nat.zero_le (2 ^ k))]
    simp
  have h3 : ¬ ((k : Int) < 0) := by omega
  simp only [binOp, Op.shift, IntKind.bits, h3, if_false, Int.toNat_natCast, h1, e, Sem.run_pure]
theorem v_shl8 {K : IntKind} (a : UInt8) (k : Nat) (hk : k < 8) : (binOp .shl t (u8v a) (.int K (k : Int))).run P w = .ok (u8v (a <<< UInt8.ofNat k)) w := by
  have h1 : min k 8 = k := by omega
  have e : IntKind.u8.wrap ((a.toNat : Int) * 2 ^ k) = (((a <<< UInt8.ofNat k).toNat : Nat) : Int) := by
    have h2 : (UInt8.ofNat k).toNat % 8 = k := by simp; omega
    rw [UInt8.toNat_shiftLeft, h2, Nat.shiftLeft_eq, IntKind.wrap_u8]
    simp
  have h3 : ¬ ((k : Int) < 0) := by omega
  simp only [binOp, Op.shift, IntKind.bits, h3, if_false, Int.toNat_natCast, h1, e, Sem.run_pure]
theorem v_xor32 (a b : UInt32) : (binOp .xor t (u32v a) (u32v b)).run P w = .ok (u32v (a ^^^ b)) w := by
  have h := (a.toBitVec ^^^ b.toBitVec).isLt
  have e : (((a.toBitVec ^^^ b.toBitVec).toNat : Nat) : Int) % 4294967296 = (((a ^^^ b).toNat : Nat) : Int) := by
    show _ = (((a.toBitVec ^^^ b.toBitVec).toNat : Nat) : Int)
    omega
  simp only [binOp, Op.intBits, IntKind.bits, ofInt32, IntKind.wrap_u32, Sem.run_pure, ne_eq, not_true_eq_false, if_false]
  exact congrArg (fun z => Result.ok (Value.int _ z) w) e
theorem v_and32 (a b : UInt32) : (binOp .and t (u32v a) (u32v b)).run P w = .ok (u32v (a &&& b)) w := by
  have h := (a.toBitVec &&& b.toBitVec).isLt
  have e : (((a.toBitVec &&& b.toBitVec).toNat : Nat) : Int) % 4294967296 = (((a &&& b).toNat : Nat) : Int) := by
    show _ = (((a.toBitVec &&& b.toBitVec).toNat : Nat) : Int)
    omega
  simp only [binOp, Op.intBits, IntKind.bits, ofInt32, IntKind.wrap_u32, Sem.run_pure, ne_eq, not_true_eq_false, if_false]
  exact congrArg (fun z => Result.ok (Value.int _ z) w) e
theorem v_or32 (a b : UInt32) : (binOp .or t (u32v a) (u32v b)).run P w = .ok (u32v (a ||| b)) w := by
  have h := (a.toBitVec ||| b.toBitVec).isLt
  have e : (((a.toBitVec ||| b.toBitVec).toNat : Nat) : Int) % 4294967296 = (((a ||| b).toNat : Nat) : Int) := by
    show _ = (((a.toBitVec ||| b.toBitVec).toNat : Nat) : Int)
    omega
  simp only [binOp, Op.intBits, IntKind.bits, ofInt32, IntKind.wrap_u32, Sem.run_pure, ne_eq, not_true_eq_false, if_false]
  exact congrArg (fun z => Result.ok (Value.int _ z) w) e
theorem v_add32 (a b : UInt32) : (binOp .add t (u32v a) (u32v b)).run P w = .ok (u32v (a + b)) w := by
  simp [binOp, Op.intArith, IntKind.wrap_u32]
theorem v_mul32 (a b : UInt32) : (binOp .mul t (u32v a) (u32v b)).run P w = .ok (u32v (a * b)) w := by
  simp [binOp, Op.intArith, IntKind.wrap_u32]
theorem v_sub32 (a b : UInt32) : (binOp .sub t (u32v a) (u32v b)).run P w = .ok (u32v (a - b)) w := by
  have e : ((a.toNat : Int) - b.toNat) % 4294967296 = (((a - b).toNat : Nat) : Int) := by
    rw [UInt32.toNat_sub]
    have := a.toNat_lt
    have := b.toNat_lt
    omega
  simp only [binOp, Op.intArith, IntKind.wrap_u32, e, Sem.run_pure, ne_eq, not_true_eq_false, if_false]
theorem v_rem32 (a b : UInt32) (hb : b ≠ 0) : (binOp .rem t (u32v a) (u32v b)).run P w = .ok (u32v (a % b)) w := by
  have h0 : ¬ b.toNat = 0 := fun h => hb (UInt32.toNat_inj.1 (by simpa using h))
  have e : ((a.toNat : Int)).tmod b.toNat = (((a % b).toNat : Nat) : Int) := by
    rw [UInt32.toNat_mod, IntWalk.rem_in _ _ (by omega)]
    rfl
  have h1 : ¬ (b.toNat : Int) = 0 := by omega
  simp only [binOp, Op.intDiv, h1, e, Sem.run_pure, ne_eq, not_true_eq_false, if_false]
theorem v_quo32 (a b : UInt32) (hb : b ≠ 0) : (binOp .quo t (u32v a) (u32v b)).run P w = .ok (u32v (a / b)) w := by
  have h0 : ¬ b.toNat = 0 := fun h => hb (UInt32.toNat_inj.1 (by simpa using h))
  have h2 := a.toNat_lt
  have e : IntKind.u32.wrap ((a.toNat : Int).tdiv b.toNat) = (((a / b).toNat : Nat) : Int) := by
    rw [UInt32.toNat_div, IntWalk.u32_quo (a.toNat : Int) (b.toNat : Int) ⟨by omega, by omega, by omega⟩]
    rfl
  have h1 : ¬ (b.toNat : Int) = 0 := by omega
  simp only [binOp, Op.intDiv, h1, e, Sem.run_pure, ne_eq, not_true_eq_false, if_false]
theorem v_lss32 (a b : UInt32) : (binOp .lss t (u32v a) (u32v b)).run P w = .ok (.bool (decide (a < b))) w := by
  simp [binOp, Op.intCmp, UInt32.lt_iff_toNat_lt]
theorem v_leq32 (a b : UInt32) : (binOp .leq t (u32v a) (u32v b)).run P w = .ok (.bool (decide (a ≤ b))) w := by
  simp [binOp, Op.intCmp, UInt32.le_iff_toNat_le]
theorem v_gtr32 (a b : UInt32) : (binOp .gtr t (u32v a) (u32v b)).run P w = .ok (.bool (decide (b < a))) w := by
  simp [binOp, Op.intCmp, UInt32.lt_iff_toNat_lt]
theorem v_geq32 (a b : UInt32) : (binOp .geq t (u32v a) (u32v b)).run P w = .ok (.bool (decide (b ≤ a))) w := by
  simp [binOp, Op.intCmp, UInt32.le_iff_toNat_le]
theorem v_eql32 (a b : UInt32) : (binOp .eql t (u32v a) (u32v b)).run P w = .ok (.bool (decide (a = b))) w := by
  have h : (a.toNat : Int) = b.toNat ↔ a = b := by rw [← UInt32.toNat_inj]; omega
  by_cases e : a = b
  · subst e; simp [binOp, Op.intCmp]
  · have e' : ¬ (a.toNat : Int) = b.toNat := fun x => e (h.1 x)
    simp only [binOp, Op.intCmp, Sem.run_pure, ne_eq, not_true_eq_false, if_false, beq_eq_false_iff_ne.2 e', bne_iff_ne.2 e', e, decide_false, decide_true, not_false_eq_true]
theorem v_neq32 (a b : UInt32) : (binOp .neq t (u32v a) (u32v b)).run P w = .ok (.bool (decide (a ≠ b))) w := by
  have h : (a.toNat : Int) = b.toNat ↔ a = b := by rw [← UInt32.toNat_inj]; omega
  by_cases e : a = b
  · subst e; simp [binOp, Op.intCmp]
  · have e' : ¬ (a.toNat : Int) = b.toNat := fun x => e (h.1 x)
    simp only [binOp, Op.intCmp, Sem.run_pure, ne_eq, not_true_eq_false, if_false, beq_eq_false_iff_ne.2 e', bne_iff_ne.2 e', e, decide_false, decide_true, not_false_eq_true]
theorem v_shr32 {K : IntKind} (a : UInt32) (k : Nat) (hk : k < 32) : (binOp .shr t (u32v a) (.int K (k : Int))).run P w = .ok (u32v (a >>> UInt32.ofNat k)) w := by
  have h1 : min k 32 = k := by omega
  have e : (a.toNat : Int).fdiv (2 ^ k) = (((a >>> UInt32.ofNat k).toNat : Nat) : Int) := by
    have h2 : (UInt32.ofNat k).toNat % 32 = k := by simp; omega
    rw [UInt32.toNat_shiftRight, h2, Nat.shiftRight_eq_div_pow, Int.fdiv_eq_ediv_of_nonneg _ (by exact_mod_cast Nat.zero_le (2 ^ k))]
    simp
  have h3 : ¬ ((k : Int) < 0) := by omega
  simp only [binOp, Op.shift, IntKind.bits, h3, if_false, Int.toNat_natCast, h1, e, Sem.run_pure]
theorem v_shl32 {K : IntKind} (a : UInt32) (k : Nat) (hk : k < 32) : (binOp .shl t (u32v a) (.int K (k : Int))).run P w = .ok (u32v (a <<< UInt32.ofNat k)) w := by
  have h1 : min k 32 = k := by omega
  have e : IntKind.u32.wrap ((a.toNat : Int) * 2 ^ k) = (((a <<< UInt32.ofNat k).toNat : Nat) : Int) := by
    have h2 : (UInt32.ofNat k).toNat % 32 = k := by simp; omega
    rw [UInt32.toNat_shiftLeft, h2, Nat.shiftLeft_eq, IntKind.wrap_u32]
    simp
  have h3 : ¬ ((k : Int) < 0) := by omega
  simp only [binOp, Op.shift, IntKind.bits, h3, if_false, Int.toNat_natCast, h1, e, Sem.run_pure]
theorem v_xor64 (a b : UInt64) : (binOp .xor t (u64v a) (u64v b)).run P w = .ok (u64v (a ^^^ b)) w := by
  have h := (a.toBitVec ^^^ b.toBitVec).isLt
  have e : (((a.toBitVec ^^^ b.toBitVec).toNat : Nat) : Int) % 18446744073709551616 = (((a ^^^ b).toNat : Nat) : Int) := by
    show _ = (((a.toBitVec ^^^ b.toBitVec).toNat : Nat) : Int)
    omega
  simp only [binOp, Op.intBits, IntKind.bits, ofInt64, IntKind.wrap_u64, Sem.run_pure, ne_eq, not_true_eq_false, if_false]
  exact congrArg (fun z => Result.ok (Value.int _ z) w) e
theorem v_and64 (a b : UInt64) : (binOp .and t (u64v a) (u64v b)).run P w = .ok (u64v (a &&& b)) w := by
  have h := (a.toBitVec &&& b.toBitVec).isLt
  have e : (((a.toBitVec &&& b.toBitVec).toNat : Nat) : Int) % 18446744073709551616 = (((a &&& b).toNat : Nat) : Int) := by
    show _ = (((a.toBitVec &&& b.toBitVec).toNat : Nat) : Int)
    omega
  simp only [binOp, Op.intBits, IntKind.bits, ofInt64, IntKind.wrap_u64, Sem.run_pure, ne_eq, not_true_eq_false, if_false]
  exact congrArg (fun z => Result.ok (Value.int _ z) w) e
theorem v_or64 (a b : UInt64) : (binOp .or t (u64v a) (u64v b)).run P w = .ok (u64v (a ||| b)) w := by
  have h := (a.toBitVec ||| b.toBitVec).isLt
  have e : (((a.toBitVec ||| b.toBitVec).toNat : Nat) : Int) % 18446744073709551616 = (((a ||| b).toNat : Nat) : Int) := by
    show _ = (((a.toBitVec ||| b.toBitVec).toNat : Nat) : Int)
    omega
  simp only [binOp, Op.intBits, IntKind.bits, ofInt64, IntKind.wrap_u64, Sem.run_pure, ne_eq, not_true_eq_false, if_false]
  exact congrArg (fun z => Result.ok (Value.int _ z) w) e
theorem v_add64 (a b : UInt64) : (binOp .add t (u64v a) (u64v b)).run P w = .ok (u64v (a + b)) w := by
  simp [binOp, Op.intArith, IntKind.wrap_u64]
theorem v_mul64 (a b : UInt64) : (binOp .mul t (u64v a) (u64v b)).run P w = .ok (u64v (a * b)) w := by
  simp [binOp, Op.intArith, IntKind.wrap_u64]
theorem v_sub64 (a b : UInt64) : (binOp .sub t (u64v a) (u64v b)).run P w = .ok (u64v (a - b)) w := by
  have e : ((a.toNat : Int) - b.toNat) % 18446744073709551616 = (((a - b).toNat : Nat) : Int) := by
    rw [UInt64.toNat_sub]
    have := a.toNat_lt
    have := b.toNat_lt
    omega
  simp only [binOp, Op.intArith, IntKind.wrap_u64, e, Sem.run_pure, ne_eq, not_true_eq_false, if_false]
theorem v_rem64 (a b : UInt64) (hb : b ≠ 0) : (binOp .rem t (u64v a) (u64v b)).run P w = .ok (u64v (a % b)) w := by
  have h0 : ¬ b.toNat = 0 := fun h => hb (UInt64.toNat_inj.1 (by simpa using h))
  have e : ((a.toNat : Int)).tmod b.toNat = (((a % b).toNat : Nat) : Int) := by
    rw [UInt64.toNat_mod, IntWalk.rem_in _ _ (by omega)]
    rfl
  have h1 : ¬ (b.toNat : Int) = 0 := by omega
  simp only [binOp, Op.intDiv, h1, e, Sem.run_pure, ne_eq, not_true_eq_false, if_false]
theorem v_quo64 (a b : UInt64) (hb : b ≠ 0) : (binOp .quo t (u64v a) (u64v b)).run P w = .ok (u64v (a / b)) w := by
  have h0 : ¬ b.toNat = 0 := fun h => hb (UInt64.toNat_inj.1 (by simpa using h))
  have h2 := a.toNat_lt
  have e : IntKind.u64.wrap ((a.toNat : Int).tdiv b.toNat) = (((a / b).toNat : Nat) : Int) := by
    rw [UInt64.toNat_div, IntWalk.u64_quo (a.toNat : Int) (b.toNat : Int) ⟨by omega, by omega, by omega⟩]
    rfl
  have h1 : ¬ (b.toNat : Int) = 0 := by omega
  simp only [binOp, Op.intDiv, h1, e, Sem.run_pure, ne_eq, not_true_eq_false, if_false]
theorem v_lss64 (a b : UInt64) : (binOp .lss t (u64v a) (u64v b)).run P w = .ok (.bool (decide (a < b))) w := by
  simp [binOp, Op.intCmp, UInt64.lt_iff_toNat_lt]
theorem v_leq64 (a b : UInt64) : (binOp .leq t (u64v a) (u64v b)).run P w = .ok (.bool (decide (a ≤ b))) w := by
  simp [binOp, Op.intCmp, UInt64.le_iff_toNat_le]
theorem v_gtr64 (a b : UInt64) : (binOp .gtr t (u64v a) (u64v b)).run P w = .ok (.bool (decide (b < a))) w := by
  simp [binOp, Op.intCmp, UInt64.lt_iff_toNat_lt]
theorem v_geq64 (a b : UInt64) : (binOp .geq t (u64v a) (u64v b)).run P w = .ok (.bool (decide (b ≤ a))) w := by
  simp [binOp, Op.intCmp, UInt64.le_iff_toNat_le]
theorem v_eql64 (a b : UInt64) : (binOp .eql t (u64v a) (u64v b)).run P w = .ok (.bool (decide (a = b))) w := by
  have h : (a.toNat : Int) = b.toNat ↔ a = b := by rw [← UInt64.toNat_inj]; omega
  by_cases e : a = b
  · subst e; simp [binOp, Op.intCmp]
  · have e' : ¬ (a.toNat : Int) = b.toNat := fun x => e (h.1 x)
    simp only [binOp, Op.intCmp, Sem.run_pure, ne_eq, not_true_eq_false, if_false, beq_eq_false_iff_ne.2 e', bne_iff_ne.2 e', e, decide_false, decide_true, not_false_eq_true]
theorem v_neq64 (a b : UInt64) : (binOp .neq t (u64v a) (u64v b)).run P w = .ok (.bool (decide (a ≠ b))) w := by
  have h : (a.toNat : Int) = b.toNat ↔ a = b := by rw [← UInt64.toNat_inj]; omega
  by_cases e : a = b
  · subst e; simp [binOp, Op.intCmp]
  · have e' : ¬ (a.toNat : Int) = b.toNat := fun x => e (h.1 x)
    simp only [binOp, Op.intCmp, Sem.run_pure, ne_eq, not_true_eq_false, if_false, beq_eq_false_iff_ne.2 e', bne_iff_ne.2 e', e, decide_false, decide_true, not_false_eq_true]
theorem v_shr64 {K : IntKind} (a : UInt64) (k : Nat) (hk : k < 64) : (binOp .shr t (u64v a) (.int K (k : Int))).run P w = .ok (u64v (a >>> UInt64.ofNat k)) w := by
  have h1 : min k 64 = k := by omega
  have e : (a.toNat : Int).fdiv (2 ^ k) = (((a >>> UInt64.ofNat k).toNat : Nat) : Int) := by
    have h2 : (UInt64.ofNat k).toNat % 64 = k := by simp; omega
    rw [UInt64.toNat_shiftRight, h2, Nat.shiftRight_eq_div_pow, Int.fdiv_eq_ediv_of_nonneg _ (by exact_mod_cast Nat.zero_le (2 ^ k))]
    simp
  have h3 : ¬ ((k : Int) < 0) := by omega
  simp only [binOp, Op.shift, IntKind.bits, h3, if_false, Int.toNat_natCast, h1, e, Sem.run_pure]
theorem v_shl64 {K : IntKind} (a : UInt64) (k : Nat) (hk : k < 64) : (binOp .shl t (u64v a) (.int K (k : Int))).run P w = .ok (u64v (a <<< UInt64.ofNat k)) w := by
  have h1 : min k 64 = k := by omega
  have e : IntKind.u64.wrap ((a.toNat : Int) * 2 ^ k) = (((a <<< UInt64.ofNat k).toNat : Nat) : Int) := by
    have h2 : (UInt64.ofNat k).toNat % 64 = k := by simp; omega
    rw [UInt64.toNat_shiftLeft, h2, Nat.shiftLeft_eq, IntKind.wrap_u64]
    simp
  have h3 : ¬ ((k : Int) < 0) := by omega
  simp only [binOp, Op.shift, IntKind.bits, h3, if_false, Int.toNat_natCast, h1, e, Sem.run_pure]
/-! ints: no overflow -/
theorem v_add {a b : Int} (h : -9223372036854775808 ≤ a + b ∧ a + b ≤ 9223372036854775807) : (binOp .add t (iv a) (iv b)).run P w = .ok (iv (a + b)) w := by
  simp [binOp, Op.intArith, IntKind.wrap_i64]; omega
theorem v_sub {a b : Int} (h : -9223372036854775808 ≤ a - b ∧ a - b ≤ 9223372036854775807) : (binOp .sub t (iv a) (iv b)).run P w = .ok (iv (a - b)) w := by
  simp [binOp, Op.intArith, IntKind.wrap_i64]; omega
theorem v_mul {a b : Int} (h : -9223372036854775808 ≤ a * b ∧ a * b ≤ 9223372036854775807) : (binOp .mul t (iv a) (iv b)).run P w = .ok (iv (a * b)) w := by
  simp [binOp, Op.intArith, IntKind.wrap_i64]; omega
theorem v_quo {a b : Int} (ha : 0 ≤ a) (ha' : a ≤ 9223372036854775807) (hb : 0 < b) : (binOp .quo t (iv a) (iv b)).run P w = .ok (iv (a / b)) w := by
  have h0 : ¬ b = 0 := by omega
  simp [binOp, Op.intDiv, h0]
  exact IntWalk.i64_quo a b ⟨ha, ha', hb⟩
theorem v_rem {a b : Int} (ha : 0 ≤ a) (hb : 0 < b) : (binOp .rem t (iv a) (iv b)).run P w = .ok (iv (a % b)) w := by
  have h0 : ¬ b = 0 := by omega
  simp [binOp, Op.intDiv, h0]
  exact IntWalk.rem_in a b ha
theorem v_lss {K : IntKind} {a b : Int} : (binOp .lss t (.int K a) (.int K b)).run P w = .ok (.bool (decide (a < b))) w := by simp [binOp, Op.intCmp]
theorem v_leq {K : IntKind} {a b : Int} : (binOp .leq t (.int K a) (.int K b)).run P w = .ok (.bool (decide (a ≤ b))) w := by simp [binOp, Op.intCmp]
theorem v_gtr {K : IntKind} {a b : Int} : (binOp .gtr t (.int K a) (.int K b)).run P w = .ok (.bool (decide (b < a))) w := by simp [binOp, Op.intCmp]
theorem v_geq {K : IntKind} {a b : Int} : (binOp .geq t (.int K a) (.int K b)).run P w = .ok (.bool (decide (b ≤ a))) w := by simp [binOp, Op.intCmp]
theorem v_eql {K : IntKind} {a b : Int} : (binOp .eql t (.int K a) (.int K b)).run P w = .ok (.bool (decide (a = b))) w := by
  simp only [binOp, Op.intCmp, Sem.run_pure, ne_eq, not_true_eq_false, if_false]
  rfl
theorem v_neq {K : IntKind} {a b : Int} : (binOp .neq t (.int K a) (.int K b)).run P w = .ok (.bool (decide (a ≠ b))) w := by
  simp only [binOp, Op.intCmp, Sem.run_pure, ne_eq, not_true_eq_false, if_false]
  by_cases e : a = b
  · subst e; simp
  · simp [e]
end
end Go.Proofs.YtdaphjnenookiaaDoor
