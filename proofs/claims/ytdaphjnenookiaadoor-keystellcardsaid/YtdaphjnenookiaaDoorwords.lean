/- What the word functions of the program and of the reference compute. -/
import Derived.Test.YtdaphjnenookiaaDoorProg
import Derived.Test.YtdaphjnenookiaaDoorNm
import Derived.Test.YtdaphjnenookiaaDoorL10
namespace Go.Proofs.YtdaphjnenookiaaDoor
open Go Go.RowKit Go.Proofs
set_option linter.unusedVariables false
set_option linter.unusedSimpArgs false
set_option maxRecDepth 4000


def be32 (x : UInt32) : List UInt8 := [(x >>> 24).toUInt8, (x >>> 16).toUInt8, (x >>> 8).toUInt8, x.toUInt8]
def be64 (x : UInt64) : List UInt8 := be32 (x >>> 32).toUInt32 ++ be32 x.toUInt32
theorem be32_len (x : UInt32) : (be32 x).length = 4 := rfl
theorem be64_len (x : UInt64) : (be64 x).length = 8 := rfl
/-- Turned to the right. -/
def rotr (x : UInt32) (n : Nat) : UInt32 := x >>> UInt32.ofNat n ||| x <<< UInt32.ofNat ((32 - n) % 32)

theorem words_Put32_ok {F : Nat → Prop} {w : World} {v : Value} {bs : List UInt8} (x : UInt32) (hF : ∀ k, w.heap.size ≤ k → F k) (hv : Kd.u8.Sl F w v bs) (hl : bs.length ≤ 2 ^ 40) :
    Calls Pr N_words_Put32 #[v, u32v x] w fun e w' => ∃ r, e = .returned r ∧ Kd.u8.Own F w.heap.size ty_uint8 w' r (bs ++ be32 x) ∧ Ext w w' := by
  refine calls (args := [v, u32v x]) fn_words_Put32 rfl rfl rfl rfl ?_
  refine C_seq ?_
  refine C_region ?_
  refine s_v (y_assign rfl) ?_
  refine G_nil ?_
  refine C_seq ?_
  refine C_region ?_
  refine s_v (y_move rfl) ?_
  refine s_append (K := Kd.u8) rfl rfl (Kd.Own.nil Kd.u8 F w.heap.size ty_uint8 w) hv u_sl_uint8 i_uint8 rfl flat_u8 (by simp [maxLen]; omega) (by simp; omega) (Nat.le_refl _) ?_
  intro v6 w6 h6 hg6 hb6
  refine s_v (y_move rfl) ?_
  refine s_v (y_bin rfl rfl (fun _ => v_shr32 _ 24 (by decide))) ?_
  refine s_v (y_conv rfl (cv_u32_u8 _ u_uint32 u_uint8)) ?_
  refine s_v (y_move rfl) ?_
  refine s_v (y_bin rfl rfl (fun _ => v_shr32 _ 16 (by decide))) ?_
  refine s_v (y_conv rfl (cv_u32_u8 _ u_uint32 u_uint8)) ?_
  refine s_v (y_move rfl) ?_
  refine s_v (y_bin rfl rfl (fun _ => v_shr32 _ 8 (by decide))) ?_
  refine s_v (y_conv rfl (cv_u32_u8 _ u_uint32 u_uint8)) ?_
  refine s_v (y_move rfl) ?_
  refine s_v (y_conv rfl (cv_u32_u8 _ u_uint32 u_uint8)) ?_
  refine s_lit (K := Kd.u8) (F := F) (xs := be32 x) rfl rfl rfl rfl u_sl_uint8 i_uint8 rfl (by decide) (by decide) (by simp [Value.cells, Kd.u8, Kd.flat]) (Kd.Els.lits rfl) ?_
  intro v18 w18 h18 hx18
  refine s_append (K := Kd.u8) rfl rfl (h6.ext hx18) ((h18.lower hb6.size).sl (fun k hk => hF k hk)) u_sl_uint8 i_uint8 rfl flat_u8 (by simp [maxLen, be32]; omega) (by simp [be32]; omega) (Below.ext hb6 hx18 hb6.size).size ?_
  intro v19 w19 h19 hg19 hb19
  have hB19 : Below w.heap.size w w19 := (Below.trans (Below.ext hb6 hx18 hb6.size) hb19)
  refine s_v (y_assign rfl) ?_
  refine G_nil ?_
  refine C_ret ?_
  exact ⟨_, (.tmp rfl .nil), _, rfl, h19, hB19⟩

theorem words_Put64_ok {F : Nat → Prop} {w : World} {v : Value} {bs : List UInt8} (x : UInt64) (hF : ∀ k, w.heap.size ≤ k → F k) (hv : Kd.u8.Sl F w v bs) (hl : bs.length ≤ 2 ^ 39) :
    Calls Pr N_words_Put64 #[v, u64v x] w fun e w' => ∃ r, e = .returned r ∧ Kd.u8.Own F w.heap.size ty_uint8 w' r (bs ++ be64 x) ∧ Ext w w' := by
  refine calls (args := [v, u64v x]) fn_words_Put64 rfl rfl rfl rfl ?_
  refine C_seq ?_
  refine C_region ?_
  refine s_v (y_assign rfl) ?_
  refine G_nil ?_
  refine C_seq ?_
  refine C_region ?_
  refine s_v (y_move rfl) ?_
  refine s_v (y_move rfl) ?_
  refine s_v (y_bin rfl rfl (fun _ => v_shr64 _ 32 (by decide))) ?_
  refine s_v (y_conv rfl (cv_u64_u32 _ u_uint64 u_uint32)) ?_
  refine s_call rfl cl_words_Put32 (words_Put32_ok _ hF hv (by simp [be32]; omega)) ?_
  rintro _ w9 ⟨v9, rfl, h9, hx9⟩
  refine ⟨_, rfl, ?_⟩
  refine s_v (y_move rfl) ?_
  refine s_v (y_conv rfl (cv_u64_u32 _ u_uint64 u_uint32)) ?_
  refine s_call rfl cl_words_Put32 (words_Put32_ok _ (fun k hk => hF k (Nat.le_trans hx9.size hk)) (h9.sl (fun k hk => hF k hk)) (by simp [be32]; omega)) ?_
  rintro _ w12 ⟨v12, rfl, h12, hx12⟩
  refine ⟨_, rfl, ?_⟩
  have hO12 := h12
  replace h12 := h12.lower hx9.size
  refine s_v (y_assign rfl) ?_
  refine G_nil ?_
  refine C_ret ?_
  exact ⟨_, (.tmp rfl .nil), _, rfl, by unfold be64; rw [← List.append_assoc]; exact h12, (Below.ext hx9 hx12 hx9.size)⟩

def beU64 (bs : List UInt8) : UInt64 := bs.foldl (fun x c => x <<< 8 ||| c.toUInt64) 0
theorem beU64_snoc (bs : List UInt8) (c : UInt8) : beU64 (bs ++ [c]) = beU64 bs <<< 8 ||| c.toUInt64 := by simp [beU64]
/-- What 'get' answers. -/
def getS (bs : List UInt8) (pos n : Int) : UInt64 × Int :=
  if pos < 0 ∨ pos > bs.length then (0, 1) else if (bs.length : Int) - pos < n then (0, 4) else (beU64 ((bs.take (pos + n).toNat).drop pos.toNat), 0)
theorem take_snoc {α : Type} (l : List α) (k : Nat) (x : α) (h : l[k]? = some x) : l.take (k + 1) = l.take k ++ [x] := by
  obtain ⟨h1, h2⟩ := List.getElem?_eq_some_iff.1 h
  rw [List.take_succ_eq_append_getElem h1, h2]

theorem words_get_ok {F : Nat → Prop} {w : World} {v : Value} {bs : List UInt8} {pos n : Int} (hn : 0 ≤ n) (hn2 : n ≤ 8) (hp : -9223372036854775808 ≤ pos) (hp2 : pos ≤ 9223372036854775800) (hv : Kd.u8.Sl F w v bs) (hl : bs.length ≤ 2 ^ 40) :
    Calls Pr N_words_get #[v, iv pos, iv n] w fun e w' => e = .returned (.tuple #[u64v (getS bs pos n).1, iv (getS bs pos n).2]) ∧ w = w' := by
  refine calls (args := [v, iv pos, iv n]) fn_words_get rfl rfl rfl rfl ?_
  refine C_seq ?_
  refine C_region ?_
  refine s_v (y_assign (v := u64v 0) rfl) ?_
  refine s_v (y_assign rfl) ?_
  refine G_nil ?_
  refine C_seq ?_
  refine C_seq ?_
  refine C_region ?_
  refine s_v (y_move rfl) ?_
  refine s_v (y_bin rfl rfl (fun _ => v_lss)) ?_
  refine s_v (y_move rfl) ?_
  refine G_case 13 rfl (fun hg13 => ?_) (fun hg13 => ?_)
  · skip
    try replace hg13 := of_decide_eq_true hg13
    refine s_not rfl rfl rfl ?_
    refine s_not rfl rfl rfl ?_
    refine s_not rfl rfl rfl ?_
    refine s_not rfl rfl rfl ?_
    refine s_v (y_pick rfl rfl) ?_
    refine G_nil ?_
    refine C_true rfl ?_
    refine C_seq ?_
    refine C_region ?_
    refine s_v (y_assign (v := u64v 0) rfl) ?_
    refine s_v (y_assign rfl) ?_
    refine G_nil ?_
    refine C_ret ?_
    refine ⟨_, (.tmp rfl (.tmp rfl .nil)), ?_, rfl⟩
    first | (rw [show getS bs pos n = (0, 1) from by unfold getS; rw [if_pos (by omega)]]; rfl) | (rw [show getS bs pos n = (0, 4) from by unfold getS; rw [if_neg (by omega), if_pos (by omega)]]; rfl) | (rw [show getS bs pos n = (beU64 ((bs.take (pos + n).toNat).drop pos.toNat), 0) from by unfold getS; rw [if_neg (by omega), if_neg (by omega)]]; rw [show k = ((bs.take (pos + n).toNat).drop pos.toNat).length from by omega, List.take_length]; rfl)
  · skip
    try replace hg13 := of_decide_eq_false hg13
    refine s_yes rfl rfl rfl ?_
    refine s_v (y_move rfl) ?_
    refine s_yes rfl rfl rfl ?_
    refine s_v (y_move rfl) ?_
    refine s_yes rfl rfl rfl ?_
    refine s_v (y_len rfl hv u_sl_uint8) ?_
    refine s_yes rfl rfl rfl ?_
    refine s_v (y_bin rfl rfl (fun _ => v_gtr)) ?_
    refine s_v (y_pick rfl rfl) ?_
    refine G_nil ?_
    refine C_if rfl (fun hc18 => ?_) (fun hc18 => ?_)
    · skip
      refine C_seq ?_
      refine C_region ?_
      refine s_v (y_assign (v := u64v 0) rfl) ?_
      refine s_v (y_assign rfl) ?_
      refine G_nil ?_
      refine C_ret ?_
      refine ⟨_, (.tmp rfl (.tmp rfl .nil)), ?_, rfl⟩
      first | (rw [show getS bs pos n = (0, 1) from by unfold getS; rw [if_pos (by omega)]]; rfl) | (rw [show getS bs pos n = (0, 4) from by unfold getS; rw [if_neg (by omega), if_pos (by omega)]]; rfl) | (rw [show getS bs pos n = (beU64 ((bs.take (pos + n).toNat).drop pos.toNat), 0) from by unfold getS; rw [if_neg (by omega), if_neg (by omega)]]; rw [show k = ((bs.take (pos + n).toNat).drop pos.toNat).length from by omega, List.take_length]; rfl)
    · skip
      refine C_skip ?_
      refine C_seq ?_
      refine C_seq ?_
      refine C_region ?_
      refine s_v (y_move rfl) ?_
      refine s_v (y_len rfl hv u_sl_uint8) ?_
      refine s_v (y_move rfl) ?_
      refine s_v (y_bin rfl rfl (fun _ => v_sub (by omega))) ?_
      refine s_v (y_move rfl) ?_
      refine s_v (y_bin rfl rfl (fun _ => v_lss)) ?_
      refine G_nil ?_
      refine C_if rfl (fun hc24 => ?_) (fun hc24 => ?_)
      · skip
        refine C_seq ?_
        refine C_region ?_
        refine s_v (y_assign (v := u64v 0) rfl) ?_
        refine s_v (y_assign rfl) ?_
        refine G_nil ?_
        refine C_ret ?_
        refine ⟨_, (.tmp rfl (.tmp rfl .nil)), ?_, rfl⟩
        first | (rw [show getS bs pos n = (0, 1) from by unfold getS; rw [if_pos (by omega)]]; rfl) | (rw [show getS bs pos n = (0, 4) from by unfold getS; rw [if_neg (by omega), if_pos (by omega)]]; rfl) | (rw [show getS bs pos n = (beU64 ((bs.take (pos + n).toNat).drop pos.toNat), 0) from by unfold getS; rw [if_neg (by omega), if_neg (by omega)]]; rw [show k = ((bs.take (pos + n).toNat).drop pos.toNat).length from by omega, List.take_length]; rfl)
      · skip
        refine C_skip ?_
        refine C_seq ?_
        refine C_region ?_
        refine s_v (y_assign (v := u64v 0) rfl) ?_
        refine G_nil ?_
        refine C_seq ?_
        refine C_seq ?_
        refine C_region ?_
        refine s_v (y_move rfl) ?_
        refine s_v (y_move rfl) ?_
        refine s_v (y_move rfl) ?_
        refine s_v (y_move rfl) ?_
        refine s_v (y_bin rfl rfl (fun _ => v_add (by omega))) ?_
        refine s_reslice rfl hv (.inr ⟨_, rfl, rfl⟩) (.inr ⟨_, rfl, rfl⟩) (by omega) (by omega) (by omega) u_sl_uint8 i_uint8 ?_
        intro v30 h30
        refine s_v (y_len rfl h30 u_sl_uint8) ?_
        refine s_v (y_move rfl) ?_
        refine G_nil ?_
        refine C_block ?_
        refine C_loop (α := Nat) (fun k => [(8, u64v (beU64 (((bs.take (pos + n).toNat).drop pos.toNat).take k))), (32, iv (k : Int)), (30, v30), (31, iv ((bs.take (pos + n).toNat).drop pos.toNat).length)]) (fun k w' => k ≤ ((bs.take (pos + n).toNat).drop pos.toNat).length ∧ w' = w) (fun k => ((bs.take (pos + n).toNat).drop pos.toNat).length - k) 0 (.cons rfl (.cons rfl (.cons rfl (.cons rfl (.nil))))) ⟨Nat.zero_le _, rfl⟩ ?_
        rintro k _ ⟨hk, rfl⟩
        have hdl : ((bs.take (pos + n).toNat).drop pos.toNat).length ≤ bs.length := by simp; omega
        refine C_seq ?_
        refine C_region ?_
        refine s_v (y_bin rfl rfl (fun _ => v_lss)) ?_
        refine G_nil ?_
        refine C_seq ?_
        refine C_if rfl (fun hc33 => ?_) (fun hc33 => ?_)
        · skip
          obtain ⟨c0, hc0⟩ : ∃ c0, ((bs.take (pos + n).toNat).drop pos.toNat)[k]? = some c0 := ⟨_, List.getElem?_eq_getElem (by omega)⟩
          refine C_skip ?_
          refine C_seq ?_
          refine C_block ?_
          refine C_seq ?_
          refine C_region ?_
          refine s_idx rfl rfl h30 (by omega) hc0 u_sl_uint8 i_uint8 ?_
          rintro ad34 _ hF34 rfl hc34
          refine s_v (y_load rfl (fun _ e => e ▸ hc34) u_uint8) ?_
          refine s_v (y_assign rfl) ?_
          refine G_nil ?_
          refine C_region ?_
          refine s_v (y_move rfl) ?_
          refine s_v (y_bin rfl rfl (fun _ => v_shl64 _ 8 (by decide))) ?_
          refine s_v (y_move rfl) ?_
          refine s_v (y_conv rfl (cv_u8_u64 _ u_uint8 u_uint64)) ?_
          refine s_v (y_bin rfl rfl (fun _ => v_or64 _ _)) ?_
          refine s_v (y_assign rfl) ?_
          refine G_nil ?_
          refine C_region ?_
          refine s_v (y_bin rfl rfl (fun _ => v_add (by omega))) ?_
          refine s_v (y_move rfl) ?_
          refine G_nil ?_
          refine ⟨k + 1, .cons (by rw [take_snoc _ k c0 hc0, beU64_snoc]; rfl) (.cons rfl (.cons rfl (.cons rfl .nil))), ⟨by omega, rfl⟩, by omega⟩
        · skip
          refine C_exit ?_
          refine C_seq ?_
          refine C_region ?_
          refine s_v (y_move rfl) ?_
          refine s_v (y_assign rfl) ?_
          refine s_v (y_assign rfl) ?_
          refine G_nil ?_
          refine C_ret ?_
          refine ⟨_, (.tmp rfl (.tmp rfl .nil)), ?_, rfl⟩
          first | (rw [show getS bs pos n = (0, 1) from by unfold getS; rw [if_pos (by omega)]]; rfl) | (rw [show getS bs pos n = (0, 4) from by unfold getS; rw [if_neg (by omega), if_pos (by omega)]]; rfl) | (rw [show getS bs pos n = (beU64 ((bs.take (pos + n).toNat).drop pos.toNat), 0) from by unfold getS; rw [if_neg (by omega), if_neg (by omega)]]; rw [show k = ((bs.take (pos + n).toNat).drop pos.toNat).length from by omega, List.take_length]; rfl)

theorem words_Get32_ok {F : Nat → Prop} {w : World} {v : Value} {bs : List UInt8} {pos : Int} (hp : -9223372036854775808 ≤ pos) (hp2 : pos ≤ 9223372036854775800) (hv : Kd.u8.Sl F w v bs) (hl : bs.length ≤ 2 ^ 40) :
    Calls Pr N_words_Get32 #[v, iv pos] w fun e w' => e = .returned (.tuple #[u32v (getS bs pos 4).1.toUInt32, iv (getS bs pos 4).2]) ∧ w = w' := by
  refine calls (args := [v, iv pos]) fn_words_Get32 rfl rfl rfl rfl ?_
  refine C_seq ?_
  refine C_region ?_
  refine s_v (y_assign (v := u32v 0) rfl) ?_
  refine s_v (y_assign rfl) ?_
  refine G_nil ?_
  refine C_seq ?_
  refine C_region ?_
  refine s_v (y_move rfl) ?_
  refine s_v (y_move rfl) ?_
  refine s_call rfl cl_words_get (words_get_ok (by omega) (by omega) (by omega) (by omega) hv (by omega)) ?_
  rintro _ _ ⟨rfl, rfl⟩
  refine ⟨_, rfl, ?_⟩
  refine s_v (y_move rfl) ?_
  refine s_v (y_extract rfl rfl) ?_
  refine s_v (y_extract rfl rfl) ?_
  refine s_v (y_assign rfl) ?_
  refine s_v (y_assign rfl) ?_
  refine G_nil ?_
  refine C_seq ?_
  refine C_region ?_
  refine s_v (y_move rfl) ?_
  refine s_v (y_conv rfl (cv_u64_u32 _ u_uint64 u_uint32)) ?_
  refine s_v (y_move rfl) ?_
  refine s_v (y_assign rfl) ?_
  refine s_v (y_assign rfl) ?_
  refine G_nil ?_
  refine C_ret ?_
  exact ⟨_, (.tmp rfl (.tmp rfl .nil)), rfl, rfl⟩

theorem words_Get64_ok {F : Nat → Prop} {w : World} {v : Value} {bs : List UInt8} {pos : Int} (hp : -9223372036854775808 ≤ pos) (hp2 : pos ≤ 9223372036854775800) (hv : Kd.u8.Sl F w v bs) (hl : bs.length ≤ 2 ^ 40) :
    Calls Pr N_words_Get64 #[v, iv pos] w fun e w' => e = .returned (.tuple #[u64v (getS bs pos 8).1, iv (getS bs pos 8).2]) ∧ w = w' := by
  refine calls (args := [v, iv pos]) fn_words_Get64 rfl rfl rfl rfl ?_
  refine C_seq ?_
  refine C_region ?_
  refine s_v (y_assign (v := u64v 0) rfl) ?_
  refine s_v (y_assign rfl) ?_
  refine G_nil ?_
  refine C_seq ?_
  refine C_region ?_
  refine s_v (y_move rfl) ?_
  refine s_v (y_move rfl) ?_
  refine s_call rfl cl_words_get (words_get_ok (by omega) (by omega) (by omega) (by omega) hv (by omega)) ?_
  rintro _ _ ⟨rfl, rfl⟩
  refine ⟨_, rfl, ?_⟩
  refine s_v (y_extract rfl rfl) ?_
  refine s_v (y_extract rfl rfl) ?_
  refine s_v (y_assign rfl) ?_
  refine s_v (y_assign rfl) ?_
  refine G_nil ?_
  refine C_ret ?_
  exact ⟨_, (.tmp rfl (.tmp rfl .nil)), rfl, rfl⟩

theorem and255 (y : UInt32) : (y &&& 255).toUInt8 = y.toUInt8 := by
  apply UInt8.toNat_inj.1
  simp
  rw [show (255 : Nat) = 2 ^ 8 - 1 from rfl, Nat.and_two_pow_sub_one_eq_mod]
  omega
theorem and32m (x : UInt64) : (x &&& 4294967295).toUInt32 = x.toUInt32 := by
  apply UInt32.toNat_inj.1
  simp
  rw [show (4294967295 : Nat) = 2 ^ 32 - 1 from rfl, Nat.and_two_pow_sub_one_eq_mod]
  omega
def be32' (x : UInt32) : List UInt8 := [(x >>> 24).toUInt8, (x >>> 16 &&& 255).toUInt8, (x >>> 8 &&& 255).toUInt8, (x &&& 255).toUInt8]
theorem be32'_eq (x : UInt32) : be32' x = be32 x := by unfold be32' be32; rw [and255, and255, and255]

theorem ref1_Put32_ok {F : Nat → Prop} {w : World} {v : Value} {bs : List UInt8} (x : UInt32) (hF : ∀ k, w.heap.size ≤ k → F k) (hv : Kd.u8.Sl F w v bs) (hl : bs.length ≤ 2 ^ 40) :
    Calls Pr N_ref1_Put32 #[v, u32v x] w fun e w' => ∃ r, e = .returned r ∧ Kd.u8.Own F w.heap.size ty_uint8 w' r (bs ++ be32 x) ∧ Ext w w' := by
  refine calls (args := [v, u32v x]) fn_ref1_Put32 rfl rfl rfl rfl ?_
  refine C_seq ?_
  refine C_region ?_
  refine s_v (y_assign rfl) ?_
  refine G_nil ?_
  refine C_seq ?_
  refine C_region ?_
  refine s_v (y_move rfl) ?_
  refine s_append (K := Kd.u8) rfl rfl (Kd.Own.nil Kd.u8 F w.heap.size ty_uint8 w) hv u_sl_uint8 i_uint8 rfl flat_u8 (by simp [maxLen]; omega) (by simp; omega) (Nat.le_refl _) ?_
  intro v6 w6 h6 hg6 hb6
  refine s_v (y_move rfl) ?_
  refine s_v (y_bin rfl rfl (fun _ => v_shr32 _ 24 (by decide))) ?_
  refine s_v (y_conv rfl (cv_u32_u8 _ u_uint32 u_uint8)) ?_
  refine s_v (y_move rfl) ?_
  refine s_v (y_bin rfl rfl (fun _ => v_shr32 _ 16 (by decide))) ?_
  refine s_v (y_bin rfl rfl (fun _ => v_and32 _ 255)) ?_
  refine s_v (y_conv rfl (cv_u32_u8 _ u_uint32 u_uint8)) ?_
  refine s_v (y_move rfl) ?_
  refine s_v (y_bin rfl rfl (fun _ => v_shr32 _ 8 (by decide))) ?_
  refine s_v (y_bin rfl rfl (fun _ => v_and32 _ 255)) ?_
  refine s_v (y_conv rfl (cv_u32_u8 _ u_uint32 u_uint8)) ?_
  refine s_v (y_move rfl) ?_
  refine s_v (y_bin rfl rfl (fun _ => v_and32 _ 255)) ?_
  refine s_v (y_conv rfl (cv_u32_u8 _ u_uint32 u_uint8)) ?_
  refine s_lit (K := Kd.u8) (F := F) (xs := be32' x) rfl rfl rfl rfl u_sl_uint8 i_uint8 rfl (by decide) (by decide) (by simp [Value.cells, Kd.u8, Kd.flat]) (Kd.Els.lits rfl) ?_
  intro v21 w21 h21 hx21
  refine s_append (K := Kd.u8) rfl rfl (h6.ext hx21) ((h21.lower hb6.size).sl (fun k hk => hF k hk)) u_sl_uint8 i_uint8 rfl flat_u8 (by simp [maxLen, be32']; omega) (by simp [be32']; omega) (Below.ext hb6 hx21 hb6.size).size ?_
  intro v22 w22 h22 hg22 hb22
  have hB22 : Below w.heap.size w w22 := (Below.trans (Below.ext hb6 hx21 hb6.size) hb22)
  refine s_v (y_assign rfl) ?_
  refine G_nil ?_
  refine C_ret ?_
  exact ⟨_, (.tmp rfl .nil), _, rfl, by rw [← be32'_eq]; exact h22, hB22⟩

theorem ref1_Put64_ok {F : Nat → Prop} {w : World} {v : Value} {bs : List UInt8} (x : UInt64) (hF : ∀ k, w.heap.size ≤ k → F k) (hv : Kd.u8.Sl F w v bs) (hl : bs.length ≤ 2 ^ 39) :
    Calls Pr N_ref1_Put64 #[v, u64v x] w fun e w' => ∃ r, e = .returned r ∧ Kd.u8.Own F w.heap.size ty_uint8 w' r (bs ++ be64 x) ∧ Ext w w' := by
  refine calls (args := [v, u64v x]) fn_ref1_Put64 rfl rfl rfl rfl ?_
  refine C_seq ?_
  refine C_region ?_
  refine s_v (y_assign rfl) ?_
  refine G_nil ?_
  refine C_seq ?_
  refine C_region ?_
  refine s_v (y_move rfl) ?_
  refine s_v (y_move rfl) ?_
  refine s_v (y_bin rfl rfl (fun _ => v_shr64 _ 32 (by decide))) ?_
  refine s_v (y_conv rfl (cv_u64_u32 _ u_uint64 u_uint32)) ?_
  refine s_call rfl cl_ref1_Put32 (ref1_Put32_ok _ hF hv (by simp [be32]; omega)) ?_
  rintro _ w9 ⟨v9, rfl, h9, hx9⟩
  refine ⟨_, rfl, ?_⟩
  refine s_v (y_move rfl) ?_
  refine s_v (y_bin rfl rfl (fun _ => v_and64 _ 4294967295)) ?_
  refine s_v (y_conv rfl (cv_u64_u32 _ u_uint64 u_uint32)) ?_
  refine s_call rfl cl_ref1_Put32 (ref1_Put32_ok _ (fun k hk => hF k (Nat.le_trans hx9.size hk)) (h9.sl (fun k hk => hF k hk)) (by simp [be32]; omega)) ?_
  rintro _ w13 ⟨v13, rfl, h13, hx13⟩
  refine ⟨_, rfl, ?_⟩
  have hO13 := h13
  replace h13 := h13.lower hx9.size
  refine s_v (y_assign rfl) ?_
  refine G_nil ?_
  refine C_ret ?_
  exact ⟨_, (.tmp rfl .nil), _, rfl, by unfold be64; rw [← List.append_assoc, ← and32m x]; exact h13, (Below.ext hx9 hx13 hx9.size)⟩

theorem cut_get {bs : List UInt8} {pos n : Int} {k : Nat} (h0 : 0 ≤ pos) (hn : 0 ≤ n) (hk : (k : Int) < n) (hl : n ≤ bs.length - pos) : ∃ c, bs[(pos + k).toNat]? = some c ∧ ((bs.take (pos + n).toNat).drop pos.toNat)[k]? = some c := by
  have h1 : (pos + k).toNat < bs.length := by omega
  refine ⟨_, List.getElem?_eq_getElem h1, ?_⟩
  rw [List.getElem?_drop, List.getElem?_take, if_pos (by omega), ← List.getElem?_eq_getElem h1]
  congr 1
  omega

theorem ref1_get_ok {F : Nat → Prop} {w : World} {v : Value} {bs : List UInt8} {pos n : Int} (hn : 0 ≤ n) (hn2 : n ≤ 8) (hp : -9223372036854775808 ≤ pos) (hp2 : pos ≤ 9223372036854775800) (hv : Kd.u8.Sl F w v bs) (hl : bs.length ≤ 2 ^ 40) :
    Calls Pr N_ref1_get #[v, iv pos, iv n] w fun e w' => e = .returned (.tuple #[u64v (getS bs pos n).1, iv (getS bs pos n).2]) ∧ w = w' := by
  refine calls (args := [v, iv pos, iv n]) fn_ref1_get rfl rfl rfl rfl ?_
  refine C_seq ?_
  refine C_region ?_
  refine s_v (y_assign (v := u64v 0) rfl) ?_
  refine s_v (y_assign rfl) ?_
  refine G_nil ?_
  refine C_seq ?_
  refine C_seq ?_
  refine C_region ?_
  refine s_v (y_move rfl) ?_
  refine s_v (y_bin rfl rfl (fun _ => v_lss)) ?_
  refine s_v (y_move rfl) ?_
  refine G_case 12 rfl (fun hg12 => ?_) (fun hg12 => ?_)
  · skip
    try replace hg12 := of_decide_eq_true hg12
    refine s_not rfl rfl rfl ?_
    refine s_not rfl rfl rfl ?_
    refine s_not rfl rfl rfl ?_
    refine s_not rfl rfl rfl ?_
    refine s_v (y_pick rfl rfl) ?_
    refine G_nil ?_
    refine C_true rfl ?_
    refine C_seq ?_
    refine C_region ?_
    refine s_v (y_assign (v := u64v 0) rfl) ?_
    refine s_v (y_assign rfl) ?_
    refine G_nil ?_
    refine C_ret ?_
    refine ⟨_, (.tmp rfl (.tmp rfl .nil)), ?_, rfl⟩
    first | (rw [show getS bs pos n = (0, 1) from by unfold getS; rw [if_pos (by omega)]]; rfl) | (rw [show getS bs pos n = (0, 4) from by unfold getS; rw [if_neg (by omega), if_pos (by omega)]]; rfl) | (rw [show getS bs pos n = (beU64 ((bs.take (pos + n).toNat).drop pos.toNat), 0) from by unfold getS; rw [if_neg (by omega), if_neg (by omega)]]; rw [show k = n.toNat from by omega, show n.toNat = ((bs.take (pos + n).toNat).drop pos.toNat).length from by simp; omega, List.take_length]; rfl)
  · skip
    try replace hg12 := of_decide_eq_false hg12
    refine s_yes rfl rfl rfl ?_
    refine s_v (y_move rfl) ?_
    refine s_yes rfl rfl rfl ?_
    refine s_v (y_move rfl) ?_
    refine s_yes rfl rfl rfl ?_
    refine s_v (y_len rfl hv u_sl_uint8) ?_
    refine s_yes rfl rfl rfl ?_
    refine s_v (y_bin rfl rfl (fun _ => v_gtr)) ?_
    refine s_v (y_pick rfl rfl) ?_
    refine G_nil ?_
    refine C_if rfl (fun hc17 => ?_) (fun hc17 => ?_)
    · skip
      refine C_seq ?_
      refine C_region ?_
      refine s_v (y_assign (v := u64v 0) rfl) ?_
      refine s_v (y_assign rfl) ?_
      refine G_nil ?_
      refine C_ret ?_
      refine ⟨_, (.tmp rfl (.tmp rfl .nil)), ?_, rfl⟩
      first | (rw [show getS bs pos n = (0, 1) from by unfold getS; rw [if_pos (by omega)]]; rfl) | (rw [show getS bs pos n = (0, 4) from by unfold getS; rw [if_neg (by omega), if_pos (by omega)]]; rfl) | (rw [show getS bs pos n = (beU64 ((bs.take (pos + n).toNat).drop pos.toNat), 0) from by unfold getS; rw [if_neg (by omega), if_neg (by omega)]]; rw [show k = n.toNat from by omega, show n.toNat = ((bs.take (pos + n).toNat).drop pos.toNat).length from by simp; omega, List.take_length]; rfl)
    · skip
      refine C_skip ?_
      refine C_seq ?_
      refine C_seq ?_
      refine C_region ?_
      refine s_v (y_move rfl) ?_
      refine s_v (y_len rfl hv u_sl_uint8) ?_
      refine s_v (y_move rfl) ?_
      refine s_v (y_bin rfl rfl (fun _ => v_sub (by omega))) ?_
      refine s_v (y_move rfl) ?_
      refine s_v (y_bin rfl rfl (fun _ => v_lss)) ?_
      refine G_nil ?_
      refine C_if rfl (fun hc23 => ?_) (fun hc23 => ?_)
      · skip
        refine C_seq ?_
        refine C_region ?_
        refine s_v (y_assign (v := u64v 0) rfl) ?_
        refine s_v (y_assign rfl) ?_
        refine G_nil ?_
        refine C_ret ?_
        refine ⟨_, (.tmp rfl (.tmp rfl .nil)), ?_, rfl⟩
        first | (rw [show getS bs pos n = (0, 1) from by unfold getS; rw [if_pos (by omega)]]; rfl) | (rw [show getS bs pos n = (0, 4) from by unfold getS; rw [if_neg (by omega), if_pos (by omega)]]; rfl) | (rw [show getS bs pos n = (beU64 ((bs.take (pos + n).toNat).drop pos.toNat), 0) from by unfold getS; rw [if_neg (by omega), if_neg (by omega)]]; rw [show k = n.toNat from by omega, show n.toNat = ((bs.take (pos + n).toNat).drop pos.toNat).length from by simp; omega, List.take_length]; rfl)
      · skip
        refine C_skip ?_
        refine C_seq ?_
        refine C_region ?_
        refine s_v (y_assign (v := u64v 0) rfl) ?_
        refine G_nil ?_
        refine C_seq ?_
        refine C_seq ?_
        refine C_region ?_
        refine s_v (y_assign rfl) ?_
        refine G_nil ?_
        refine C_block ?_
        refine C_loop (α := Nat) (fun k => [(0, v), (1, iv pos), (2, iv n), (8, u64v (beU64 (((bs.take (pos + n).toNat).drop pos.toNat).take k))), (9, iv (k : Int))]) (fun k w' => (k : Int) ≤ n ∧ w' = w) (fun k => n.toNat - k) 0 (.cons rfl (.cons rfl (.cons rfl (.cons rfl (.cons rfl (.nil)))))) ⟨by omega, rfl⟩ ?_
        rintro k _ ⟨hk, rfl⟩
        refine C_seq ?_
        refine C_seq ?_
        refine C_region ?_
        refine s_v (y_move rfl) ?_
        refine s_v (y_move rfl) ?_
        refine s_v (y_bin rfl rfl (fun _ => v_lss)) ?_
        refine G_nil ?_
        refine C_if rfl (fun hc26 => ?_) (fun hc26 => ?_)
        · skip
          obtain ⟨c0, hg0, hc0⟩ := cut_get (bs := bs) (pos := pos) (n := n) (k := k) (by omega) (by omega) (by omega) (by omega)
          refine C_skip ?_
          refine C_seq ?_
          refine C_block ?_
          refine C_region ?_
          refine s_v (y_move rfl) ?_
          refine s_v (y_bin rfl rfl (fun _ => v_shl64 _ 8 (by decide))) ?_
          refine s_v (y_move rfl) ?_
          refine s_v (y_move rfl) ?_
          refine s_v (y_move rfl) ?_
          refine s_v (y_bin rfl rfl (fun _ => v_add (by omega))) ?_
          refine s_idx rfl rfl hv (by omega) hg0 u_sl_uint8 i_uint8 ?_
          rintro ad35 _ hF35 rfl hc35
          refine s_v (y_load rfl (fun _ e => e ▸ hc35) u_uint8) ?_
          refine s_v (y_conv rfl (cv_u8_u64 _ u_uint8 u_uint64)) ?_
          refine s_v (y_bin rfl rfl (fun _ => v_or64 _ _)) ?_
          refine s_v (y_assign rfl) ?_
          refine G_nil ?_
          refine C_region ?_
          refine s_v (y_move rfl) ?_
          refine s_v (y_bin rfl rfl (fun _ => v_add (by omega))) ?_
          refine s_v (y_assign rfl) ?_
          refine G_nil ?_
          refine ⟨k + 1, .cons rfl (.cons rfl (.cons rfl (.cons (by rw [take_snoc _ k c0 hc0, beU64_snoc]; rfl) (.cons rfl .nil)))), ⟨by omega, rfl⟩, by omega⟩
        · skip
          refine C_exit ?_
          refine C_seq ?_
          refine C_region ?_
          refine s_v (y_move rfl) ?_
          refine s_v (y_assign rfl) ?_
          refine s_v (y_assign rfl) ?_
          refine G_nil ?_
          refine C_ret ?_
          refine ⟨_, (.tmp rfl (.tmp rfl .nil)), ?_, rfl⟩
          first | (rw [show getS bs pos n = (0, 1) from by unfold getS; rw [if_pos (by omega)]]; rfl) | (rw [show getS bs pos n = (0, 4) from by unfold getS; rw [if_neg (by omega), if_pos (by omega)]]; rfl) | (rw [show getS bs pos n = (beU64 ((bs.take (pos + n).toNat).drop pos.toNat), 0) from by unfold getS; rw [if_neg (by omega), if_neg (by omega)]]; rw [show k = n.toNat from by omega, show n.toNat = ((bs.take (pos + n).toNat).drop pos.toNat).length from by simp; omega, List.take_length]; rfl)

theorem ref1_Get32_ok {F : Nat → Prop} {w : World} {v : Value} {bs : List UInt8} {pos : Int} (hp : -9223372036854775808 ≤ pos) (hp2 : pos ≤ 9223372036854775800) (hv : Kd.u8.Sl F w v bs) (hl : bs.length ≤ 2 ^ 40) :
    Calls Pr N_ref1_Get32 #[v, iv pos] w fun e w' => e = .returned (.tuple #[u32v (getS bs pos 4).1.toUInt32, iv (getS bs pos 4).2]) ∧ w = w' := by
  refine calls (args := [v, iv pos]) fn_ref1_Get32 rfl rfl rfl rfl ?_
  refine C_seq ?_
  refine C_region ?_
  refine s_v (y_assign (v := u32v 0) rfl) ?_
  refine s_v (y_assign rfl) ?_
  refine G_nil ?_
  refine C_seq ?_
  refine C_region ?_
  refine s_v (y_move rfl) ?_
  refine s_v (y_move rfl) ?_
  refine s_call rfl cl_ref1_get (ref1_get_ok (by omega) (by omega) (by omega) (by omega) hv (by omega)) ?_
  rintro _ _ ⟨rfl, rfl⟩
  refine ⟨_, rfl, ?_⟩
  refine s_v (y_move rfl) ?_
  refine s_v (y_extract rfl rfl) ?_
  refine s_v (y_extract rfl rfl) ?_
  refine s_v (y_assign rfl) ?_
  refine s_v (y_assign rfl) ?_
  refine G_nil ?_
  refine C_seq ?_
  refine C_region ?_
  refine s_v (y_move rfl) ?_
  refine s_v (y_conv rfl (cv_u64_u32 _ u_uint64 u_uint32)) ?_
  refine s_v (y_move rfl) ?_
  refine s_v (y_assign rfl) ?_
  refine s_v (y_assign rfl) ?_
  refine G_nil ?_
  refine C_ret ?_
  exact ⟨_, (.tmp rfl (.tmp rfl .nil)), rfl, rfl⟩

theorem rot1 : ∀ n < 32, (UInt64.ofNat n &&& 31).toNat = n := by decide
theorem rot2 : ∀ n < 32, (32 - (UInt64.ofNat n &&& 31) &&& 31).toNat = (32 - n) % 32 := by decide
theorem rot3 : ∀ n < 32, ¬ UInt64.ofNat n = 0 → (32 - UInt64.ofNat n).toNat = (32 - n) % 32 ∧ (UInt64.ofNat n).toNat = n := by decide
theorem rot0 (x : UInt32) : rotr x 0 = x := by
  apply UInt32.toNat_inj.1
  simp [rotr]

theorem words_Rot_ok {w : World} (x : UInt32) (n : Nat) (hn : n < 32) :
    Calls Pr N_words_Rot #[u32v x, iv (n : Int)] w fun e w' => e = .returned (u32v (rotr x n)) ∧ w = w' := by
  refine calls (args := [u32v x, iv (n : Int)]) fn_words_Rot rfl rfl rfl rfl ?_
  refine C_seq ?_
  refine C_region ?_
  refine s_v (y_assign (v := u32v 0) rfl) ?_
  refine G_nil ?_
  refine C_seq ?_
  refine C_region ?_
  refine s_v (y_move rfl) ?_
  refine s_v (y_conv rfl (cv_i64_u64 rfl u_int u_uint)) ?_
  refine s_v (y_bin rfl rfl (fun _ => v_and64 _ 31)) ?_
  refine s_v (y_assign rfl) ?_
  refine G_nil ?_
  refine C_seq ?_
  refine C_region ?_
  refine s_v (y_move rfl) ?_
  refine s_v (y_move rfl) ?_
  refine s_v (y_bin rfl rfl (fun _ => v_shr32 _ _ (by rw [rot1 n hn]; exact hn))) ?_
  refine s_v (y_move rfl) ?_
  refine s_v (y_move rfl) ?_
  refine s_v (y_bin rfl rfl (fun _ => v_sub64 32 _)) ?_
  refine s_v (y_bin rfl rfl (fun _ => v_and64 _ 31)) ?_
  refine s_v (y_bin rfl rfl (fun _ => v_shl32 _ _ (by rw [rot2 n hn]; omega))) ?_
  refine s_v (y_bin rfl rfl (fun _ => v_or32 _ _)) ?_
  refine s_v (y_assign rfl) ?_
  refine G_nil ?_
  refine C_ret ?_
  refine ⟨_, (.tmp rfl .nil), ?_, rfl⟩
  unfold rotr
  rw [rot1 n hn, rot2 n hn]
  rfl

theorem ref1_Rot_ok {w : World} (x : UInt32) (n : Nat) (hn : n < 32) :
    Calls Pr N_ref1_Rot #[u32v x, iv (n : Int)] w fun e w' => e = .returned (u32v (rotr x n)) ∧ w = w' := by
  refine calls (args := [u32v x, iv (n : Int)]) fn_ref1_Rot rfl rfl rfl rfl ?_
  refine C_seq ?_
  refine C_region ?_
  refine s_v (y_assign (v := u32v 0) rfl) ?_
  refine G_nil ?_
  refine C_seq ?_
  refine C_region ?_
  refine s_v (y_move rfl) ?_
  refine s_v (y_bin rfl rfl (fun _ => v_rem (by omega) (by omega))) ?_
  refine s_v (y_bin rfl rfl (fun _ => v_add (by omega))) ?_
  refine s_v (y_bin rfl rfl (fun _ => v_rem (by omega) (by omega))) ?_
  refine s_v (y_conv rfl (cv_i64_u64 (show _ = ((n : Nat) : Int) by omega) u_int u_uint)) ?_
  refine s_v (y_assign rfl) ?_
  refine G_nil ?_
  refine C_seq ?_
  refine C_seq ?_
  refine C_region ?_
  refine s_v (y_move rfl) ?_
  refine s_v (y_bin rfl rfl (fun _ => v_eql64 _ 0)) ?_
  refine G_nil ?_
  refine C_if rfl (fun hc12 => ?_) (fun hc12 => ?_)
  · skip
    refine C_seq ?_
    refine C_region ?_
    refine s_v (y_move rfl) ?_
    refine s_v (y_assign rfl) ?_
    refine G_nil ?_
    refine C_ret ?_
    refine ⟨_, (.tmp rfl .nil), ?_, rfl⟩
    first | (rw [(rot3 n hn hc12).1, (rot3 n hn hc12).2]; rfl) | (obtain rfl : n = 0 := (by have := rot1 n hn; rw [hc12] at this; simpa using this.symm); rw [rot0]; rfl)
  · skip
    refine C_skip ?_
    refine C_seq ?_
    refine C_region ?_
    refine s_v (y_move rfl) ?_
    refine s_v (y_move rfl) ?_
    refine s_v (y_bin rfl rfl (fun _ => v_shr32 _ _ (by rw [(rot3 n hn hc12).2]; exact hn))) ?_
    refine s_v (y_move rfl) ?_
    refine s_v (y_move rfl) ?_
    refine s_v (y_bin rfl rfl (fun _ => v_sub64 32 _)) ?_
    refine s_v (y_bin rfl rfl (fun _ => v_shl32 _ _ (by rw [(rot3 n hn hc12).1]; omega))) ?_
    refine s_v (y_bin rfl rfl (fun _ => v_or32 _ _)) ?_
    refine s_v (y_assign rfl) ?_
    refine G_nil ?_
    refine C_ret ?_
    refine ⟨_, (.tmp rfl .nil), ?_, rfl⟩
    first | (rw [(rot3 n hn hc12).1, (rot3 n hn hc12).2]; rfl) | (obtain rfl : n = 0 := (by have := rot1 n hn; rw [hc12] at this; simpa using this.symm); rw [rot0]; rfl)

theorem ref1_turn_ok {w : World} (x : UInt32) (n : Nat) (hn : n < 32) :
    Calls Pr N_ref1_turn #[u32v x, iv (n : Int)] w fun e w' => e = .returned (u32v (rotr x n)) ∧ w = w' := by
  refine calls (args := [u32v x, iv (n : Int)]) fn_ref1_turn rfl rfl rfl rfl ?_
  refine C_seq ?_
  refine C_region ?_
  refine s_v (y_assign (v := u32v 0) rfl) ?_
  refine G_nil ?_
  refine C_seq ?_
  refine C_region ?_
  refine s_v (y_move rfl) ?_
  refine s_v (y_move rfl) ?_
  refine s_call rfl cl_ref1_Rot (ref1_Rot_ok x n hn) ?_
  rintro _ _ ⟨rfl, rfl⟩
  refine ⟨_, rfl, ?_⟩
  refine s_v (y_assign rfl) ?_
  refine G_nil ?_
  refine C_ret ?_
  exact ⟨_, (.tmp rfl .nil), rfl, rfl⟩
end Go.Proofs.YtdaphjnenookiaaDoor
