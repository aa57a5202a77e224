/- What the checks of a chain and its inner product compute. -/
import Derived.Test.YtdaphjnenookiaaDoorProg
import Derived.Test.YtdaphjnenookiaaDoorNm
import Derived.Test.YtdaphjnenookiaaDoorwords
import Derived.Test.YtdaphjnenookiaaDoorsha
import Derived.Test.YtdaphjnenookiaaDoorrsha
import Derived.Test.YtdaphjnenookiaaDoorscal
import Derived.Test.YtdaphjnenookiaaDoorgrp
import Derived.Test.YtdaphjnenookiaaDoorprf
import Derived.Test.YtdaphjnenookiaaDoorkys
namespace Go.Proofs.YtdaphjnenookiaaDoor
open Go Go.RowKit Go.Proofs
set_option linter.unusedVariables false
set_option linter.unusedSimpArgs false
set_option maxRecDepth 4000


/-- Whether one told rightly over a base. -/
def okP (b : UInt64) (p : List UInt64) : Bool :=
  decide (p.getD 0 0 = b) && (checkS b (p.getD 1 0) (p.getD 4 0) (p.getD 5 0) && (checkS b (p.getD 2 0) (p.getD 6 0) (p.getD 7 0) && checkS 37 (p.getD 3 0) (p.getD 8 0) (p.getD 9 0)))
def okAll : List (List UInt64) → UInt64 → Bool
  | [], _ => true
  | p :: l, b => okP b p && okAll l (p.getD 1 0)
theorem okAll_at {L : List (List UInt64)} {k : Nat} {p : List UInt64} {b : UInt64} (h : L[k]? = some p) : okAll (L.drop k) b = (okP b p && okAll (L.drop (k + 1)) (p.getD 1 0)) := by
  obtain ⟨h1, h2⟩ := List.getElem?_eq_some_iff.1 h
  rw [List.drop_eq_getElem_cons h1, h2]
  rfl
def lenOk (n : Nat) : Bool := decide (1 ≤ n) && decide (n ≤ 20)
def innerS (L : List (List UInt64)) : List UInt64 := L.map fun p => p.getD 3 0

theorem len_ok1 {n : Nat} (h : (1 : Int) ≤ n) : lenOk n = decide ((n : Int) ≤ 20) := by
  unfold lenOk
  rw [decide_eq_true (by omega : 1 ≤ n), Bool.true_and, decide_eq_decide]
  omega
theorem len_ok0 {n : Nat} (h : ¬ (1 : Int) ≤ n) : lenOk n = false := by
  unfold lenOk
  rw [decide_eq_false (by omega : ¬ 1 ≤ n)]; rfl

theorem keys_Check_ok {F : Nat → Prop} {w : World} {v : Value} {L : List (List UInt64)} (hv : KPub.Sl F w v L) (hl : L.length ≤ 1000) :
    Calls Pr N_keys_Check #[v] w fun e w' => e = .returned (.bool (okAll L 37 && lenOk L.length)) ∧ Ext w w' := by
  have hvl := hv.len_le
  simp only [maxLen] at hvl
  refine calls (args := [v]) fn_keys_Check rfl rfl rfl rfl ?_
  refine C_seq ?_
  refine C_region ?_
  refine s_v (y_assign rfl) ?_
  refine G_nil ?_
  refine C_seq ?_
  refine C_region ?_
  refine s_v (y_assign (v := u64v 37) rfl) ?_
  refine G_nil ?_
  refine C_seq ?_
  refine C_seq ?_
  refine C_region ?_
  refine s_v (y_move rfl) ?_
  refine s_v (y_len rfl hv u_sl_api_Public) ?_
  refine s_v (y_move rfl) ?_
  refine G_nil ?_
  refine C_block ?_
  refine C_loop (α := Nat × UInt64) (fun (k, b) => [(0, v), (3, u64v b), (6, v), (7, iv (L.length : Int)), (8, iv (k : Int))]) (fun (k, b) w' => k ≤ L.length ∧ okAll (L.drop k) b = okAll L 37 ∧ Below w.heap.size w w') (fun (k, b) => L.length - k) (0, 37) (.cons rfl (.cons rfl (.cons rfl (.cons rfl (.cons rfl (.nil)))))) ⟨Nat.zero_le _, rfl, (Below.refl _ _)⟩ ?_
  rintro ⟨k, b⟩ wL0 ⟨hk, hJ, hBL⟩
  refine C_seq ?_
  refine C_region ?_
  refine s_v (y_bin rfl rfl (fun _ => v_lss)) ?_
  refine G_nil ?_
  refine C_seq ?_
  refine C_if rfl (fun hc9 => ?_) (fun hc9 => ?_)
  · skip
    replace hk : k < L.length := by omega
    obtain ⟨p, hpk⟩ : ∃ s, L[k]? = some s := ⟨_, List.getElem?_eq_getElem (by omega)⟩
    refine C_skip ?_
    refine C_seq ?_
    refine C_block ?_
    refine C_seq ?_
    refine C_region ?_
    refine s_idx rfl rfl (hv.keep fun k hk _ => hBL.block k hk) (by omega) hpk u_sl_api_Public i_api_Public ?_
    rintro ad10 _ hF10 ⟨hl10, rfl⟩ hc10
    obtain ⟨p0, p1, p2, p3, p4, p5, p6, p7, p8, p9, rfl⟩ := ten hl10
    have hat := okAll_at (b := b) hpk
    rw [hJ] at hat
    simp only [okP, List.getD_cons_zero, List.getD_cons_succ] at hat
    refine s_v (y_loadA rfl (fun _ e => e ▸ hc10) u_api_Public i_api_Public rfl) ?_
    refine s_alloc i_api_Public ?_
    intro g5 w5 hgB5 hx5 hk5
    have hgb5 := hgB5
    replace hgB5 := Nat.le_trans hBL.size hgB5
    refine s_store rfl rfl hk5 i_api_Public rfl (Nat.le_of_ble_eq_true rfl) rfl ?_
    intro w4_3 hg4_3 hk4_3
    have hb4_3 : Below w.heap.size w5 w4_3 := (Below.refl _ _).grown hg4_3 (Below.ext hBL hx5 hBL.size).size (fun k hk => by cases hk; exact hgB5)
    have hB4_3 : Below w.heap.size w w4_3 := (Below.trans (Below.ext hBL hx5 hBL.size) hb4_3)
    replace hk4_3 : Blk w4_3 g5 ty_api_Public ([p0, p1, p2, p3, p4, p5, p6, p7, p8, p9].map u64v) := hk4_3
    refine G_nil ?_
    refine C_seq ?_
    refine C_seq ?_
    refine C_region ?_
    refine s_v (y_fieldB rfl u_api_Public rfl i_uint64) ?_
    refine s_v (y_load rfl (fun _ e => e ▸ (hk4_3.at_ _)) u_uint64) ?_
    refine s_v (y_move rfl) ?_
    refine s_v (y_bin rfl rfl (fun _ => v_neq64 _ _)) ?_
    refine s_v (y_move rfl) ?_
    refine G_case 16 rfl (fun hg16 => ?_) (fun hg16 => ?_)
    · skip
      try replace hg16 := of_decide_eq_true hg16
      refine s_not rfl rfl rfl ?_
      refine s_not rfl rfl rfl ?_
      refine s_not rfl rfl rfl ?_
      refine s_not rfl rfl rfl ?_
      refine s_not rfl rfl rfl ?_
      refine s_not rfl rfl rfl ?_
      refine s_not rfl rfl rfl ?_
      refine s_v (y_pick rfl rfl) ?_
      refine s_v (y_move rfl) ?_
      refine s_not rfl rfl rfl ?_
      refine s_not rfl rfl rfl ?_
      refine s_not rfl rfl rfl ?_
      refine s_not rfl rfl rfl ?_
      refine s_not rfl rfl rfl ?_
      refine s_not rfl rfl rfl ?_
      refine s_not rfl rfl rfl ?_
      refine s_v (y_pick rfl rfl) ?_
      refine s_v (y_move rfl) ?_
      refine s_not rfl rfl rfl ?_
      refine s_not rfl rfl rfl ?_
      refine s_not rfl rfl rfl ?_
      refine s_not rfl rfl rfl ?_
      refine s_not rfl rfl rfl ?_
      refine s_not rfl rfl rfl ?_
      refine s_v (y_pick rfl rfl) ?_
      refine G_nil ?_
      refine C_true rfl ?_
      refine C_seq ?_
      refine C_region ?_
      refine s_v (y_assign rfl) ?_
      refine G_nil ?_
      refine C_ret ?_
      first | (refine ⟨_, (.tmp rfl .nil), ?_, hB4_3⟩; rw [hat]; rfl) | (have hq : (decide (p0 = b) && (checkS b p1 p4 p5 && (checkS b p2 p6 p7 && checkS 37 p3 p8 p9))) = false := (by simp [*]); rw [hq, Bool.false_and] at hat; refine ⟨_, (.tmp rfl .nil), ?_, hB4_3⟩; rw [hat]; rfl) | (refine ⟨_, (.tmp rfl .nil), ?_, hB4_3⟩; rw [← hJ, len_ok1 hg48]; rfl) | (refine ⟨_, (.tmp rfl .nil), ?_, hB4_3⟩; rw [← hJ, len_ok0 hg48]; rfl)
    · skip
      try replace hg16 := of_decide_eq_false hg16
      simp only [ne_eq, Decidable.not_not] at hg16
      refine s_yes rfl rfl rfl ?_
      refine s_v (y_move rfl) ?_
      refine s_yes rfl rfl rfl ?_
      refine s_v (y_fieldB rfl u_api_Public rfl i_uint64) ?_
      refine s_yes rfl rfl rfl ?_
      refine s_v (y_load rfl (fun _ e => e ▸ (hk4_3.at_ _)) u_uint64) ?_
      refine s_yes rfl rfl rfl ?_
      refine s_v (y_fieldB rfl u_api_Public rfl i_api_Proof) ?_
      refine s_yes rfl rfl rfl ?_
      refine s_v (y_loadA rfl (fun _ e => e ▸ ((hk4_3.at_ 4).take 2)) u_api_Proof i_api_Proof rfl) ?_
      refine s_yes rfl rfl rfl ?_
      refine s_call rfl cl_proof_CheckKnow (proof_CheckKnow_ok _ _ _ _) ?_
      rintro _ w22 ⟨rfl, hx22⟩
      refine ⟨_, rfl, ?_⟩
      refine s_yes rfl rfl rfl ?_
      refine s_v (y_un rfl un_not) ?_
      refine s_v (y_pick rfl rfl) ?_
      refine s_v (y_move rfl) ?_
      refine G_case 25 rfl (fun hg25 => ?_) (fun hg25 => ?_)
      · skip
        try replace hg25 := of_decide_eq_true hg25
        simp only [Bool.not_eq_true', Bool.not_eq_false'] at hg25
        refine s_not rfl rfl rfl ?_
        refine s_not rfl rfl rfl ?_
        refine s_not rfl rfl rfl ?_
        refine s_not rfl rfl rfl ?_
        refine s_not rfl rfl rfl ?_
        refine s_not rfl rfl rfl ?_
        refine s_not rfl rfl rfl ?_
        refine s_v (y_pick rfl rfl) ?_
        refine s_v (y_move rfl) ?_
        refine s_not rfl rfl rfl ?_
        refine s_not rfl rfl rfl ?_
        refine s_not rfl rfl rfl ?_
        refine s_not rfl rfl rfl ?_
        refine s_not rfl rfl rfl ?_
        refine s_not rfl rfl rfl ?_
        refine s_v (y_pick rfl rfl) ?_
        refine G_nil ?_
        refine C_true rfl ?_
        refine C_seq ?_
        refine C_region ?_
        refine s_v (y_assign rfl) ?_
        refine G_nil ?_
        refine C_ret ?_
        first | (refine ⟨_, (.tmp rfl .nil), ?_, (Below.ext hB4_3 hx22 hB4_3.size)⟩; rw [hat]; rfl) | (have hq : (decide (p0 = b) && (checkS b p1 p4 p5 && (checkS b p2 p6 p7 && checkS 37 p3 p8 p9))) = false := (by simp [*]); rw [hq, Bool.false_and] at hat; refine ⟨_, (.tmp rfl .nil), ?_, (Below.ext hB4_3 hx22 hB4_3.size)⟩; rw [hat]; rfl) | (refine ⟨_, (.tmp rfl .nil), ?_, (Below.ext hB4_3 hx22 hB4_3.size)⟩; rw [← hJ, len_ok1 hg48]; rfl) | (refine ⟨_, (.tmp rfl .nil), ?_, (Below.ext hB4_3 hx22 hB4_3.size)⟩; rw [← hJ, len_ok0 hg48]; rfl)
      · skip
        try replace hg25 := of_decide_eq_false hg25
        simp only [Bool.not_eq_true', Bool.not_eq_false'] at hg25
        refine s_yes rfl rfl rfl ?_
        refine s_v (y_move rfl) ?_
        refine s_yes rfl rfl rfl ?_
        refine s_v (y_fieldB rfl u_api_Public rfl i_uint64) ?_
        refine s_yes rfl rfl rfl ?_
        refine s_v (y_load rfl (fun _ e => e ▸ ((hk4_3.ext hx22).at_ _)) u_uint64) ?_
        refine s_yes rfl rfl rfl ?_
        refine s_v (y_fieldB rfl u_api_Public rfl i_api_Proof) ?_
        refine s_yes rfl rfl rfl ?_
        refine s_v (y_loadA rfl (fun _ e => e ▸ (((hk4_3.ext hx22).at_ 6).take 2)) u_api_Proof i_api_Proof rfl) ?_
        refine s_yes rfl rfl rfl ?_
        refine s_call rfl cl_proof_CheckKnow (proof_CheckKnow_ok _ _ _ _) ?_
        rintro _ w31 ⟨rfl, hx31⟩
        refine ⟨_, rfl, ?_⟩
        have hB31 : Below w.heap.size w w31 := (Below.ext (Below.ext hB4_3 hx22 hB4_3.size) hx31 (Below.ext hB4_3 hx22 hB4_3.size).size)
        refine s_yes rfl rfl rfl ?_
        refine s_v (y_un rfl un_not) ?_
        refine s_v (y_pick rfl rfl) ?_
        refine s_v (y_move rfl) ?_
        refine G_case 34 rfl (fun hg34 => ?_) (fun hg34 => ?_)
        · skip
          try replace hg34 := of_decide_eq_true hg34
          simp only [Bool.not_eq_true', Bool.not_eq_false'] at hg34
          refine s_not rfl rfl rfl ?_
          refine s_not rfl rfl rfl ?_
          refine s_not rfl rfl rfl ?_
          refine s_not rfl rfl rfl ?_
          refine s_not rfl rfl rfl ?_
          refine s_not rfl rfl rfl ?_
          refine s_v (y_pick rfl rfl) ?_
          refine G_nil ?_
          refine C_true rfl ?_
          refine C_seq ?_
          refine C_region ?_
          refine s_v (y_assign rfl) ?_
          refine G_nil ?_
          refine C_ret ?_
          first | (refine ⟨_, (.tmp rfl .nil), ?_, hB31⟩; rw [hat]; rfl) | (have hq : (decide (p0 = b) && (checkS b p1 p4 p5 && (checkS b p2 p6 p7 && checkS 37 p3 p8 p9))) = false := (by simp [*]); rw [hq, Bool.false_and] at hat; refine ⟨_, (.tmp rfl .nil), ?_, hB31⟩; rw [hat]; rfl) | (refine ⟨_, (.tmp rfl .nil), ?_, hB31⟩; rw [← hJ, len_ok1 hg48]; rfl) | (refine ⟨_, (.tmp rfl .nil), ?_, hB31⟩; rw [← hJ, len_ok0 hg48]; rfl)
        · skip
          try replace hg34 := of_decide_eq_false hg34
          simp only [Bool.not_eq_true', Bool.not_eq_false'] at hg34
          refine s_yes rfl rfl rfl ?_
          refine s_v (y_fieldB rfl u_api_Public rfl i_uint64) ?_
          refine s_yes rfl rfl rfl ?_
          refine s_v (y_load rfl (fun _ e => e ▸ ((hk4_3.ext (hx22.trans hx31)).at_ _)) u_uint64) ?_
          refine s_yes rfl rfl rfl ?_
          refine s_v (y_fieldB rfl u_api_Public rfl i_api_Proof) ?_
          refine s_yes rfl rfl rfl ?_
          refine s_v (y_loadA rfl (fun _ e => e ▸ (((hk4_3.ext (hx22.trans hx31)).at_ 8).take 2)) u_api_Proof i_api_Proof rfl) ?_
          refine s_yes rfl rfl rfl ?_
          refine s_call rfl cl_proof_CheckKnow (proof_CheckKnow_ok 37 _ _ _) ?_
          rintro _ w39 ⟨rfl, hx39⟩
          refine ⟨_, rfl, ?_⟩
          refine s_yes rfl rfl rfl ?_
          refine s_v (y_un rfl un_not) ?_
          refine s_v (y_pick rfl rfl) ?_
          refine G_nil ?_
          refine C_cond rfl (fun hc41 => ?_) (fun hc41 => ?_)
          · skip
            simp only [Bool.not_eq_true', Bool.not_eq_false'] at hc41
            have hq : (decide (p0 = b) && (checkS b p1 p4 p5 && (checkS b p2 p6 p7 && checkS 37 p3 p8 p9))) = false := by simp [*]
            rw [hq, Bool.false_and] at hat
            refine C_seq ?_
            refine C_region ?_
            refine s_v (y_assign rfl) ?_
            refine G_nil ?_
            refine C_ret ?_
            first | (refine ⟨_, (.tmp rfl .nil), ?_, (Below.ext hB31 hx39 hB31.size)⟩; rw [hat]; rfl) | (have hq : (decide (p0 = b) && (checkS b p1 p4 p5 && (checkS b p2 p6 p7 && checkS 37 p3 p8 p9))) = false := (by simp [*]); rw [hq, Bool.false_and] at hat; refine ⟨_, (.tmp rfl .nil), ?_, (Below.ext hB31 hx39 hB31.size)⟩; rw [hat]; rfl) | (refine ⟨_, (.tmp rfl .nil), ?_, (Below.ext hB31 hx39 hB31.size)⟩; rw [← hJ, len_ok1 hg48]; rfl) | (refine ⟨_, (.tmp rfl .nil), ?_, (Below.ext hB31 hx39 hB31.size)⟩; rw [← hJ, len_ok0 hg48]; rfl)
          · skip
            simp only [Bool.not_eq_true', Bool.not_eq_false'] at hc41
            refine C_skip ?_
            refine C_region ?_
            refine s_v (y_fieldB rfl u_api_Public rfl i_uint64) ?_
            refine s_v (y_load rfl (fun _ e => e ▸ ((hk4_3.ext ((hx22.trans hx31).trans hx39)).at_ _)) u_uint64) ?_
            refine s_v (y_assign rfl) ?_
            refine G_nil ?_
            refine C_region ?_
            refine s_v (y_bin rfl rfl (fun _ => v_add (by omega))) ?_
            refine s_v (y_move rfl) ?_
            refine G_nil ?_
            refine ⟨(k + 1, p1), .cons rfl (.cons rfl (.cons rfl (.cons rfl (.cons rfl (.nil))))), ⟨by omega, ?_, (Below.ext hB31 hx39 hB31.size)⟩, by simp only []; omega⟩
            have hq : (decide (p0 = b) && (checkS b p1 p4 p5 && (checkS b p2 p6 p7 && checkS 37 p3 p8 p9))) = true := by simp [*]
            rw [hq, Bool.true_and] at hat
            exact hat.symm
  · skip
    obtain rfl : k = L.length := by omega
    rw [List.drop_length] at hJ
    refine C_exit ?_
    refine C_seq ?_
    refine C_region ?_
    refine s_v (y_move rfl) ?_
    refine s_v (y_len rfl hv u_sl_api_Public) ?_
    refine s_v (y_bin rfl rfl (fun _ => v_geq)) ?_
    refine s_v (y_move rfl) ?_
    refine G_case 48 rfl (fun hg48 => ?_) (fun hg48 => ?_)
    · skip
      try replace hg48 := of_decide_eq_true hg48
      refine s_yes rfl rfl rfl ?_
      refine s_v (y_move rfl) ?_
      refine s_yes rfl rfl rfl ?_
      refine s_v (y_len rfl hv u_sl_api_Public) ?_
      refine s_yes rfl rfl rfl ?_
      refine s_v (y_bin rfl rfl (fun _ => v_leq)) ?_
      refine s_v (y_pick rfl rfl) ?_
      refine s_v (y_assign rfl) ?_
      refine G_nil ?_
      refine C_ret ?_
      first | (refine ⟨_, (.tmp rfl .nil), ?_, hBL⟩; rw [hat]; rfl) | (have hq : (decide (p0 = b) && (checkS b p1 p4 p5 && (checkS b p2 p6 p7 && checkS 37 p3 p8 p9))) = false := (by simp [*]); rw [hq, Bool.false_and] at hat; refine ⟨_, (.tmp rfl .nil), ?_, hBL⟩; rw [hat]; rfl) | (refine ⟨_, (.tmp rfl .nil), ?_, hBL⟩; rw [← hJ, len_ok1 hg48]; rfl) | (refine ⟨_, (.tmp rfl .nil), ?_, hBL⟩; rw [← hJ, len_ok0 hg48]; rfl)
    · skip
      try replace hg48 := of_decide_eq_false hg48
      refine s_not rfl rfl rfl ?_
      refine s_not rfl rfl rfl ?_
      refine s_not rfl rfl rfl ?_
      refine s_v (y_pick rfl rfl) ?_
      refine s_v (y_assign rfl) ?_
      refine G_nil ?_
      refine C_ret ?_
      first | (refine ⟨_, (.tmp rfl .nil), ?_, hBL⟩; rw [hat]; rfl) | (have hq : (decide (p0 = b) && (checkS b p1 p4 p5 && (checkS b p2 p6 p7 && checkS 37 p3 p8 p9))) = false := (by simp [*]); rw [hq, Bool.false_and] at hat; refine ⟨_, (.tmp rfl .nil), ?_, hBL⟩; rw [hat]; rfl) | (refine ⟨_, (.tmp rfl .nil), ?_, hBL⟩; rw [← hJ, len_ok1 hg48]; rfl) | (refine ⟨_, (.tmp rfl .nil), ?_, hBL⟩; rw [← hJ, len_ok0 hg48]; rfl)

theorem ref12_CheckChain_ok {F : Nat → Prop} {w : World} {v : Value} {L : List (List UInt64)} (hv : KPub.Sl F w v L) (hl : L.length ≤ 1000) :
    Calls Pr N_ref12_CheckChain #[v] w fun e w' => e = .returned (.bool (okAll L 37 && lenOk L.length)) ∧ Ext w w' := by
  have hvl := hv.len_le
  simp only [maxLen] at hvl
  refine calls (args := [v]) fn_ref12_CheckChain rfl rfl rfl rfl ?_
  refine C_seq ?_
  refine C_region ?_
  refine s_v (y_assign rfl) ?_
  refine G_nil ?_
  refine C_seq ?_
  refine C_seq ?_
  refine C_region ?_
  refine s_v (y_move rfl) ?_
  refine s_v (y_len rfl hv u_sl_api_Public) ?_
  refine s_v (y_bin rfl rfl (fun _ => v_lss)) ?_
  refine s_v (y_move rfl) ?_
  refine G_case 9 rfl (fun hg9 => ?_) (fun hg9 => ?_)
  · skip
    try replace hg9 := of_decide_eq_true hg9
    refine s_not rfl rfl rfl ?_
    refine s_not rfl rfl rfl ?_
    refine s_not rfl rfl rfl ?_
    refine s_v (y_pick rfl rfl) ?_
    refine G_nil ?_
    refine C_true rfl ?_
    refine C_seq ?_
    refine C_region ?_
    refine s_v (y_assign rfl) ?_
    refine G_nil ?_
    refine C_ret ?_
    first | (refine ⟨_, (.tmp rfl .nil), ?_, (Below.refl _ _)⟩; rw [hat]; rfl) | (have hq : (decide (p0 = b) && (checkS b p1 p4 p5 && (checkS b p2 p6 p7 && checkS 37 p3 p8 p9))) = false := (by simp [*]); rw [hq, Bool.false_and] at hat; refine ⟨_, (.tmp rfl .nil), ?_, (Below.refl _ _)⟩; rw [hat]; rfl) | (have hlk : lenOk L.length = true := (by rw [len_ok1 (by omega)]; exact decide_eq_true (by omega)); refine ⟨_, (.tmp rfl .nil), ?_, (Below.refl _ _)⟩; rw [← hJ, hlk]; rfl) | (have hlk : lenOk L.length = false := (by first | rw [len_ok0 (by omega)] | (rw [len_ok1 (by omega)]; exact decide_eq_false (by omega))); refine ⟨_, (.tmp rfl .nil), ?_, (Below.refl _ _)⟩; rw [hlk, Bool.and_false]; rfl)
  · skip
    try replace hg9 := of_decide_eq_false hg9
    refine s_yes rfl rfl rfl ?_
    refine s_v (y_move rfl) ?_
    refine s_yes rfl rfl rfl ?_
    refine s_v (y_len rfl hv u_sl_api_Public) ?_
    refine s_yes rfl rfl rfl ?_
    refine s_v (y_bin rfl rfl (fun _ => v_gtr)) ?_
    refine s_v (y_pick rfl rfl) ?_
    refine G_nil ?_
    refine C_if rfl (fun hc13 => ?_) (fun hc13 => ?_)
    · skip
      refine C_seq ?_
      refine C_region ?_
      refine s_v (y_assign rfl) ?_
      refine G_nil ?_
      refine C_ret ?_
      first | (refine ⟨_, (.tmp rfl .nil), ?_, (Below.refl _ _)⟩; rw [hat]; rfl) | (have hq : (decide (p0 = b) && (checkS b p1 p4 p5 && (checkS b p2 p6 p7 && checkS 37 p3 p8 p9))) = false := (by simp [*]); rw [hq, Bool.false_and] at hat; refine ⟨_, (.tmp rfl .nil), ?_, (Below.refl _ _)⟩; rw [hat]; rfl) | (have hlk : lenOk L.length = true := (by rw [len_ok1 (by omega)]; exact decide_eq_true (by omega)); refine ⟨_, (.tmp rfl .nil), ?_, (Below.refl _ _)⟩; rw [← hJ, hlk]; rfl) | (have hlk : lenOk L.length = false := (by first | rw [len_ok0 (by omega)] | (rw [len_ok1 (by omega)]; exact decide_eq_false (by omega))); refine ⟨_, (.tmp rfl .nil), ?_, (Below.refl _ _)⟩; rw [hlk, Bool.and_false]; rfl)
    · skip
      refine C_skip ?_
      refine C_seq ?_
      refine C_region ?_
      refine s_v (y_assign (v := u64v 37) rfl) ?_
      refine G_nil ?_
      refine C_seq ?_
      refine C_seq ?_
      refine C_region ?_
      refine s_v (y_assign rfl) ?_
      refine G_nil ?_
      refine C_block ?_
      refine C_loop (α := Nat × UInt64) (fun (k, b) => [(0, v), (3, u64v b), (4, iv (k : Int))]) (fun (k, b) w' => k ≤ L.length ∧ okAll (L.drop k) b = okAll L 37 ∧ Below w.heap.size w w') (fun (k, b) => L.length - k) (0, 37) (.cons rfl (.cons rfl (.cons rfl (.nil)))) ⟨Nat.zero_le _, rfl, (Below.refl _ _)⟩ ?_
      rintro ⟨k, b⟩ wL0 ⟨hk, hJ, hBL⟩
      refine C_seq ?_
      refine C_seq ?_
      refine C_region ?_
      refine s_v (y_move rfl) ?_
      refine s_v (y_move rfl) ?_
      refine s_v (y_len rfl hv u_sl_api_Public) ?_
      refine s_v (y_bin rfl rfl (fun _ => v_lss)) ?_
      refine G_nil ?_
      refine C_if rfl (fun hc17 => ?_) (fun hc17 => ?_)
      · skip
        replace hk : k < L.length := by omega
        obtain ⟨p, hpk⟩ : ∃ s, L[k]? = some s := ⟨_, List.getElem?_eq_getElem (by omega)⟩
        refine C_skip ?_
        refine C_seq ?_
        refine C_block ?_
        refine C_seq ?_
        refine C_region ?_
        refine s_v (y_move rfl) ?_
        refine s_v (y_move rfl) ?_
        refine s_idx rfl rfl (hv.keep fun k hk _ => hBL.block k hk) (by omega) hpk u_sl_api_Public i_api_Public ?_
        rintro ad22 _ hF22 ⟨hl22, rfl⟩ hc22
        obtain ⟨p0, p1, p2, p3, p4, p5, p6, p7, p8, p9, rfl⟩ := ten hl22
        have hat := okAll_at (b := b) hpk
        rw [hJ] at hat
        simp only [okP, List.getD_cons_zero, List.getD_cons_succ] at hat
        refine s_v (y_loadA rfl (fun _ e => e ▸ hc22) u_api_Public i_api_Public rfl) ?_
        refine s_alloc i_api_Public ?_
        intro g5 w5 hgB5 hx5 hk5
        have hgb5 := hgB5
        replace hgB5 := Nat.le_trans hBL.size hgB5
        refine s_store rfl rfl hk5 i_api_Public rfl (Nat.le_of_ble_eq_true rfl) rfl ?_
        intro w7_5 hg7_5 hk7_5
        have hb7_5 : Below w.heap.size w5 w7_5 := (Below.refl _ _).grown hg7_5 (Below.ext hBL hx5 hBL.size).size (fun k hk => by cases hk; exact hgB5)
        have hB7_5 : Below w.heap.size w w7_5 := (Below.trans (Below.ext hBL hx5 hBL.size) hb7_5)
        replace hk7_5 : Blk w7_5 g5 ty_api_Public ([p0, p1, p2, p3, p4, p5, p6, p7, p8, p9].map u64v) := hk7_5
        refine G_nil ?_
        refine C_seq ?_
        refine C_seq ?_
        refine C_region ?_
        refine s_v (y_fieldB rfl u_api_Public rfl i_uint64) ?_
        refine s_v (y_load rfl (fun _ e => e ▸ (hk7_5.at_ _)) u_uint64) ?_
        refine s_v (y_move rfl) ?_
        refine s_v (y_bin rfl rfl (fun _ => v_neq64 _ _)) ?_
        refine s_v (y_move rfl) ?_
        refine G_case 28 rfl (fun hg28 => ?_) (fun hg28 => ?_)
        · skip
          try replace hg28 := of_decide_eq_true hg28
          refine s_not rfl rfl rfl ?_
          refine s_not rfl rfl rfl ?_
          refine s_not rfl rfl rfl ?_
          refine s_not rfl rfl rfl ?_
          refine s_not rfl rfl rfl ?_
          refine s_not rfl rfl rfl ?_
          refine s_not rfl rfl rfl ?_
          refine s_v (y_pick rfl rfl) ?_
          refine s_v (y_move rfl) ?_
          refine s_not rfl rfl rfl ?_
          refine s_not rfl rfl rfl ?_
          refine s_not rfl rfl rfl ?_
          refine s_not rfl rfl rfl ?_
          refine s_not rfl rfl rfl ?_
          refine s_not rfl rfl rfl ?_
          refine s_not rfl rfl rfl ?_
          refine s_v (y_pick rfl rfl) ?_
          refine s_v (y_move rfl) ?_
          refine s_not rfl rfl rfl ?_
          refine s_not rfl rfl rfl ?_
          refine s_not rfl rfl rfl ?_
          refine s_not rfl rfl rfl ?_
          refine s_not rfl rfl rfl ?_
          refine s_not rfl rfl rfl ?_
          refine s_v (y_pick rfl rfl) ?_
          refine G_nil ?_
          refine C_true rfl ?_
          refine C_seq ?_
          refine C_region ?_
          refine s_v (y_assign rfl) ?_
          refine G_nil ?_
          refine C_ret ?_
          first | (refine ⟨_, (.tmp rfl .nil), ?_, hB7_5⟩; rw [hat]; rfl) | (have hq : (decide (p0 = b) && (checkS b p1 p4 p5 && (checkS b p2 p6 p7 && checkS 37 p3 p8 p9))) = false := (by simp [*]); rw [hq, Bool.false_and] at hat; refine ⟨_, (.tmp rfl .nil), ?_, hB7_5⟩; rw [hat]; rfl) | (have hlk : lenOk L.length = true := (by rw [len_ok1 (by omega)]; exact decide_eq_true (by omega)); refine ⟨_, (.tmp rfl .nil), ?_, hB7_5⟩; rw [← hJ, hlk]; rfl) | (have hlk : lenOk L.length = false := (by first | rw [len_ok0 (by omega)] | (rw [len_ok1 (by omega)]; exact decide_eq_false (by omega))); refine ⟨_, (.tmp rfl .nil), ?_, hB7_5⟩; rw [hlk, Bool.and_false]; rfl)
        · skip
          try replace hg28 := of_decide_eq_false hg28
          simp only [ne_eq, Decidable.not_not] at hg28
          refine s_yes rfl rfl rfl ?_
          refine s_v (y_move rfl) ?_
          refine s_yes rfl rfl rfl ?_
          refine s_v (y_fieldB rfl u_api_Public rfl i_uint64) ?_
          refine s_yes rfl rfl rfl ?_
          refine s_v (y_load rfl (fun _ e => e ▸ (hk7_5.at_ _)) u_uint64) ?_
          refine s_yes rfl rfl rfl ?_
          refine s_v (y_fieldB rfl u_api_Public rfl i_api_Proof) ?_
          refine s_yes rfl rfl rfl ?_
          refine s_v (y_loadA rfl (fun _ e => e ▸ ((hk7_5.at_ 4).take 2)) u_api_Proof i_api_Proof rfl) ?_
          refine s_yes rfl rfl rfl ?_
          refine s_call rfl cl_ref1_CheckKnow (ref1_CheckKnow_ok _ _ _ _) ?_
          rintro _ w34 ⟨rfl, hx34⟩
          refine ⟨_, rfl, ?_⟩
          refine s_yes rfl rfl rfl ?_
          refine s_v (y_un rfl un_not) ?_
          refine s_v (y_pick rfl rfl) ?_
          refine s_v (y_move rfl) ?_
          refine G_case 37 rfl (fun hg37 => ?_) (fun hg37 => ?_)
          · skip
            try replace hg37 := of_decide_eq_true hg37
            simp only [Bool.not_eq_true', Bool.not_eq_false'] at hg37
            refine s_not rfl rfl rfl ?_
            refine s_not rfl rfl rfl ?_
            refine s_not rfl rfl rfl ?_
            refine s_not rfl rfl rfl ?_
            refine s_not rfl rfl rfl ?_
            refine s_not rfl rfl rfl ?_
            refine s_not rfl rfl rfl ?_
            refine s_v (y_pick rfl rfl) ?_
            refine s_v (y_move rfl) ?_
            refine s_not rfl rfl rfl ?_
            refine s_not rfl rfl rfl ?_
            refine s_not rfl rfl rfl ?_
            refine s_not rfl rfl rfl ?_
            refine s_not rfl rfl rfl ?_
            refine s_not rfl rfl rfl ?_
            refine s_v (y_pick rfl rfl) ?_
            refine G_nil ?_
            refine C_true rfl ?_
            refine C_seq ?_
            refine C_region ?_
            refine s_v (y_assign rfl) ?_
            refine G_nil ?_
            refine C_ret ?_
            first | (refine ⟨_, (.tmp rfl .nil), ?_, (Below.ext hB7_5 hx34 hB7_5.size)⟩; rw [hat]; rfl) | (have hq : (decide (p0 = b) && (checkS b p1 p4 p5 && (checkS b p2 p6 p7 && checkS 37 p3 p8 p9))) = false := (by simp [*]); rw [hq, Bool.false_and] at hat; refine ⟨_, (.tmp rfl .nil), ?_, (Below.ext hB7_5 hx34 hB7_5.size)⟩; rw [hat]; rfl) | (have hlk : lenOk L.length = true := (by rw [len_ok1 (by omega)]; exact decide_eq_true (by omega)); refine ⟨_, (.tmp rfl .nil), ?_, (Below.ext hB7_5 hx34 hB7_5.size)⟩; rw [← hJ, hlk]; rfl) | (have hlk : lenOk L.length = false := (by first | rw [len_ok0 (by omega)] | (rw [len_ok1 (by omega)]; exact decide_eq_false (by omega))); refine ⟨_, (.tmp rfl .nil), ?_, (Below.ext hB7_5 hx34 hB7_5.size)⟩; rw [hlk, Bool.and_false]; rfl)
          · skip
            try replace hg37 := of_decide_eq_false hg37
            simp only [Bool.not_eq_true', Bool.not_eq_false'] at hg37
            refine s_yes rfl rfl rfl ?_
            refine s_v (y_move rfl) ?_
            refine s_yes rfl rfl rfl ?_
            refine s_v (y_fieldB rfl u_api_Public rfl i_uint64) ?_
            refine s_yes rfl rfl rfl ?_
            refine s_v (y_load rfl (fun _ e => e ▸ ((hk7_5.ext hx34).at_ _)) u_uint64) ?_
            refine s_yes rfl rfl rfl ?_
            refine s_v (y_fieldB rfl u_api_Public rfl i_api_Proof) ?_
            refine s_yes rfl rfl rfl ?_
            refine s_v (y_loadA rfl (fun _ e => e ▸ (((hk7_5.ext hx34).at_ 6).take 2)) u_api_Proof i_api_Proof rfl) ?_
            refine s_yes rfl rfl rfl ?_
            refine s_call rfl cl_ref1_CheckKnow (ref1_CheckKnow_ok _ _ _ _) ?_
            rintro _ w43 ⟨rfl, hx43⟩
            refine ⟨_, rfl, ?_⟩
            have hB43 : Below w.heap.size w w43 := (Below.ext (Below.ext hB7_5 hx34 hB7_5.size) hx43 (Below.ext hB7_5 hx34 hB7_5.size).size)
            refine s_yes rfl rfl rfl ?_
            refine s_v (y_un rfl un_not) ?_
            refine s_v (y_pick rfl rfl) ?_
            refine s_v (y_move rfl) ?_
            refine G_case 46 rfl (fun hg46 => ?_) (fun hg46 => ?_)
            · skip
              try replace hg46 := of_decide_eq_true hg46
              simp only [Bool.not_eq_true', Bool.not_eq_false'] at hg46
              refine s_not rfl rfl rfl ?_
              refine s_not rfl rfl rfl ?_
              refine s_not rfl rfl rfl ?_
              refine s_not rfl rfl rfl ?_
              refine s_not rfl rfl rfl ?_
              refine s_not rfl rfl rfl ?_
              refine s_v (y_pick rfl rfl) ?_
              refine G_nil ?_
              refine C_true rfl ?_
              refine C_seq ?_
              refine C_region ?_
              refine s_v (y_assign rfl) ?_
              refine G_nil ?_
              refine C_ret ?_
              first | (refine ⟨_, (.tmp rfl .nil), ?_, hB43⟩; rw [hat]; rfl) | (have hq : (decide (p0 = b) && (checkS b p1 p4 p5 && (checkS b p2 p6 p7 && checkS 37 p3 p8 p9))) = false := (by simp [*]); rw [hq, Bool.false_and] at hat; refine ⟨_, (.tmp rfl .nil), ?_, hB43⟩; rw [hat]; rfl) | (have hlk : lenOk L.length = true := (by rw [len_ok1 (by omega)]; exact decide_eq_true (by omega)); refine ⟨_, (.tmp rfl .nil), ?_, hB43⟩; rw [← hJ, hlk]; rfl) | (have hlk : lenOk L.length = false := (by first | rw [len_ok0 (by omega)] | (rw [len_ok1 (by omega)]; exact decide_eq_false (by omega))); refine ⟨_, (.tmp rfl .nil), ?_, hB43⟩; rw [hlk, Bool.and_false]; rfl)
            · skip
              try replace hg46 := of_decide_eq_false hg46
              simp only [Bool.not_eq_true', Bool.not_eq_false'] at hg46
              refine s_yes rfl rfl rfl ?_
              refine s_v (y_fieldB rfl u_api_Public rfl i_uint64) ?_
              refine s_yes rfl rfl rfl ?_
              refine s_v (y_load rfl (fun _ e => e ▸ ((hk7_5.ext (hx34.trans hx43)).at_ _)) u_uint64) ?_
              refine s_yes rfl rfl rfl ?_
              refine s_v (y_fieldB rfl u_api_Public rfl i_api_Proof) ?_
              refine s_yes rfl rfl rfl ?_
              refine s_v (y_loadA rfl (fun _ e => e ▸ (((hk7_5.ext (hx34.trans hx43)).at_ 8).take 2)) u_api_Proof i_api_Proof rfl) ?_
              refine s_yes rfl rfl rfl ?_
              refine s_call rfl cl_ref1_CheckKnow (ref1_CheckKnow_ok 37 _ _ _) ?_
              rintro _ w51 ⟨rfl, hx51⟩
              refine ⟨_, rfl, ?_⟩
              refine s_yes rfl rfl rfl ?_
              refine s_v (y_un rfl un_not) ?_
              refine s_v (y_pick rfl rfl) ?_
              refine G_nil ?_
              refine C_cond rfl (fun hc53 => ?_) (fun hc53 => ?_)
              · skip
                simp only [Bool.not_eq_true', Bool.not_eq_false'] at hc53
                have hq : (decide (p0 = b) && (checkS b p1 p4 p5 && (checkS b p2 p6 p7 && checkS 37 p3 p8 p9))) = false := by simp [*]
                rw [hq, Bool.false_and] at hat
                refine C_seq ?_
                refine C_region ?_
                refine s_v (y_assign rfl) ?_
                refine G_nil ?_
                refine C_ret ?_
                first | (refine ⟨_, (.tmp rfl .nil), ?_, (Below.ext hB43 hx51 hB43.size)⟩; rw [hat]; rfl) | (have hq : (decide (p0 = b) && (checkS b p1 p4 p5 && (checkS b p2 p6 p7 && checkS 37 p3 p8 p9))) = false := (by simp [*]); rw [hq, Bool.false_and] at hat; refine ⟨_, (.tmp rfl .nil), ?_, (Below.ext hB43 hx51 hB43.size)⟩; rw [hat]; rfl) | (have hlk : lenOk L.length = true := (by rw [len_ok1 (by omega)]; exact decide_eq_true (by omega)); refine ⟨_, (.tmp rfl .nil), ?_, (Below.ext hB43 hx51 hB43.size)⟩; rw [← hJ, hlk]; rfl) | (have hlk : lenOk L.length = false := (by first | rw [len_ok0 (by omega)] | (rw [len_ok1 (by omega)]; exact decide_eq_false (by omega))); refine ⟨_, (.tmp rfl .nil), ?_, (Below.ext hB43 hx51 hB43.size)⟩; rw [hlk, Bool.and_false]; rfl)
              · skip
                simp only [Bool.not_eq_true', Bool.not_eq_false'] at hc53
                refine C_skip ?_
                refine C_region ?_
                refine s_v (y_fieldB rfl u_api_Public rfl i_uint64) ?_
                refine s_v (y_load rfl (fun _ e => e ▸ ((hk7_5.ext ((hx34.trans hx43).trans hx51)).at_ _)) u_uint64) ?_
                refine s_v (y_assign rfl) ?_
                refine G_nil ?_
                refine C_region ?_
                refine s_v (y_move rfl) ?_
                refine s_v (y_bin rfl rfl (fun _ => v_add (by omega))) ?_
                refine s_v (y_assign rfl) ?_
                refine G_nil ?_
                refine ⟨(k + 1, p1), .cons rfl (.cons rfl (.cons rfl (.nil))), ⟨by omega, ?_, (Below.ext hB43 hx51 hB43.size)⟩, by simp only []; omega⟩
                have hq : (decide (p0 = b) && (checkS b p1 p4 p5 && (checkS b p2 p6 p7 && checkS 37 p3 p8 p9))) = true := by simp [*]
                rw [hq, Bool.true_and] at hat
                exact hat.symm
      · skip
        obtain rfl : k = L.length := by omega
        rw [List.drop_length] at hJ
        refine C_exit ?_
        refine C_seq ?_
        refine C_region ?_
        refine s_v (y_assign rfl) ?_
        refine G_nil ?_
        refine C_ret ?_
        first | (refine ⟨_, (.tmp rfl .nil), ?_, hBL⟩; rw [hat]; rfl) | (have hq : (decide (p0 = b) && (checkS b p1 p4 p5 && (checkS b p2 p6 p7 && checkS 37 p3 p8 p9))) = false := (by simp [*]); rw [hq, Bool.false_and] at hat; refine ⟨_, (.tmp rfl .nil), ?_, hBL⟩; rw [hat]; rfl) | (have hlk : lenOk L.length = true := (by rw [len_ok1 (by omega)]; exact decide_eq_true (by omega)); refine ⟨_, (.tmp rfl .nil), ?_, hBL⟩; rw [← hJ, hlk]; rfl) | (have hlk : lenOk L.length = false := (by first | rw [len_ok0 (by omega)] | (rw [len_ok1 (by omega)]; exact decide_eq_false (by omega))); refine ⟨_, (.tmp rfl .nil), ?_, hBL⟩; rw [hlk, Bool.and_false]; rfl)

theorem keys_Inner_ok {F : Nat → Prop} {w : World} {v : Value} {L : List (List UInt64)} (hF : ∀ k, w.heap.size ≤ k → F k) (hv : KPub.Sl F w v L) (hl : L.length ≤ 1000) :
    Calls Pr N_keys_Inner #[v] w fun e w' => e = .returned (u64v (prodP (innerS L) 1)) ∧ Ext w w' := by
  have hvl := hv.len_le
  simp only [maxLen] at hvl
  refine calls (args := [v]) fn_keys_Inner rfl rfl rfl rfl ?_
  refine C_seq ?_
  refine C_region ?_
  refine s_v (y_assign (v := u64v 0) rfl) ?_
  refine G_nil ?_
  refine C_seq ?_
  refine C_region ?_
  refine s_v (y_assign rfl) ?_
  refine G_nil ?_
  refine C_seq ?_
  refine C_seq ?_
  refine C_region ?_
  refine s_v (y_move rfl) ?_
  refine s_v (y_len rfl hv u_sl_api_Public) ?_
  refine s_v (y_move rfl) ?_
  refine G_nil ?_
  refine C_block ?_
  refine C_loop (α := Nat × Value) (fun (k, u) => [(3, u), (6, v), (7, iv (L.length : Int)), (8, iv (k : Int))]) (fun (k, u) w' => k ≤ L.length ∧ Kd.u64.Own F w.heap.size ty_uint64 w' u (innerS (L.take k)) ∧ Below w.heap.size w w') (fun (k, u) => L.length - k) (0, .slice none 0 0) (.cons rfl (.cons rfl (.cons rfl (.cons rfl (.nil))))) ⟨Nat.zero_le _, Kd.Own.nil _ _ _ _ _, (Below.refl _ _)⟩ ?_
  rintro ⟨k, u⟩ wL0 ⟨hk, hu, hBL⟩
  refine C_seq ?_
  refine C_region ?_
  refine s_v (y_bin rfl rfl (fun _ => v_lss)) ?_
  refine G_nil ?_
  refine C_seq ?_
  refine C_if rfl (fun hc9 => ?_) (fun hc9 => ?_)
  · skip
    replace hk : k < L.length := by omega
    obtain ⟨p, hpk⟩ : ∃ s, L[k]? = some s := ⟨_, List.getElem?_eq_getElem (by omega)⟩
    refine C_skip ?_
    refine C_seq ?_
    refine C_block ?_
    refine C_seq ?_
    refine C_region ?_
    refine s_idx rfl rfl (hv.keep fun k hk _ => hBL.block k hk) (by omega) hpk u_sl_api_Public i_api_Public ?_
    rintro ad10 _ hF10 ⟨hl10, rfl⟩ hc10
    obtain ⟨p0, p1, p2, p3, p4, p5, p6, p7, p8, p9, rfl⟩ := ten hl10
    refine s_v (y_loadA rfl (fun _ e => e ▸ hc10) u_api_Public i_api_Public rfl) ?_
    refine s_alloc i_api_Public ?_
    intro g5 w5 hgB5 hx5 hk5
    have hgb5 := hgB5
    replace hgB5 := Nat.le_trans hBL.size hgB5
    refine s_store rfl rfl hk5 i_api_Public rfl (Nat.le_of_ble_eq_true rfl) rfl ?_
    intro w4_3 hg4_3 hk4_3
    have hb4_3 : Below w.heap.size w5 w4_3 := (Below.refl _ _).grown hg4_3 (Below.ext hBL hx5 hBL.size).size (fun k hk => by cases hk; exact hgB5)
    have hB4_3 : Below w.heap.size w w4_3 := (Below.trans (Below.ext hBL hx5 hBL.size) hb4_3)
    replace hk4_3 : Blk w4_3 g5 ty_api_Public ([p0, p1, p2, p3, p4, p5, p6, p7, p8, p9].map u64v) := hk4_3
    refine G_nil ?_
    refine C_region ?_
    refine s_v (y_move rfl) ?_
    refine s_v (y_fieldB rfl u_api_Public rfl i_uint64) ?_
    refine s_v (y_load rfl (fun _ e => e ▸ (hk4_3.at_ _)) u_uint64) ?_
    refine s_lit (K := Kd.u64) (F := F) (xs := [p3]) rfl rfl rfl rfl u_sl_uint64 i_uint64 rfl (by decide) (by decide) (by simp [Value.cells, Kd.u64, Kd.flat]) (Kd.Els.lits rfl) ?_
    intro v15 w15 h15 hx15
    refine s_append (K := Kd.u64) rfl rfl (((hu.ext hx5).kb hk5 flat_u64 hg4_3 (by decide)).ext hx15) ((h15.lower hB4_3.size).sl (fun k hk => hF k hk)) u_sl_uint64 i_uint64 rfl flat_u64 (by simp [maxLen, innerS]; omega) (by simp [innerS]; omega) (Below.ext hB4_3 hx15 hB4_3.size).size ?_
    intro v16 w16 h16 hg16 hb16
    have hB16 : Below w.heap.size w w16 := (Below.trans (Below.ext hB4_3 hx15 hB4_3.size) hb16)
    refine s_v (y_assign rfl) ?_
    refine G_nil ?_
    refine C_region ?_
    refine s_v (y_bin rfl rfl (fun _ => v_add (by omega))) ?_
    refine s_v (y_move rfl) ?_
    refine G_nil ?_
    refine ⟨(k + 1, v16), .cons rfl (.cons rfl (.cons rfl (.cons rfl (.nil)))), ⟨by omega, ?_, hB16⟩, by simp only []; omega⟩
    unfold innerS at *
    rw [map_snoc _ L k _ hpk]
    exact h16
  · skip
    obtain rfl : k = L.length := by omega
    rw [show innerS (L.take L.length) = innerS L from by rw [List.take_length]] at hu
    refine C_exit ?_
    refine C_seq ?_
    refine C_region ?_
    refine s_v (y_move rfl) ?_
    refine s_call rfl cl_group_Product (group_Product_ok (hu.sl (fun k hk => hF k hk))) ?_
    rintro _ _ ⟨rfl, rfl⟩
    refine ⟨_, rfl, ?_⟩
    refine s_v (y_assign rfl) ?_
    refine G_nil ?_
    refine C_ret ?_
    exact ⟨_, (.tmp rfl .nil), rfl, hBL⟩

theorem ref12_Inner_ok {F : Nat → Prop} {w : World} {v : Value} {L : List (List UInt64)} (hF : ∀ k, w.heap.size ≤ k → F k) (hv : KPub.Sl F w v L) (hl : L.length ≤ 1000) :
    Calls Pr N_ref12_Inner #[v] w fun e w' => e = .returned (u64v (prodP (innerS L) 1)) ∧ Ext w w' := by
  have hvl := hv.len_le
  simp only [maxLen] at hvl
  refine calls (args := [v]) fn_ref12_Inner rfl rfl rfl rfl ?_
  refine C_seq ?_
  refine C_region ?_
  refine s_v (y_assign (v := u64v 0) rfl) ?_
  refine G_nil ?_
  refine C_seq ?_
  refine C_region ?_
  refine s_v (y_assign rfl) ?_
  refine G_nil ?_
  refine C_seq ?_
  refine C_seq ?_
  refine C_region ?_
  refine s_v (y_assign rfl) ?_
  refine G_nil ?_
  refine C_block ?_
  refine C_loop (α := Nat × Value) (fun (k, u) => [(0, v), (3, u), (4, iv (k : Int))]) (fun (k, u) w' => k ≤ L.length ∧ Kd.u64.Own F w.heap.size ty_uint64 w' u (innerS (L.take k)) ∧ Below w.heap.size w w') (fun (k, u) => L.length - k) (0, .slice none 0 0) (.cons rfl (.cons rfl (.cons rfl (.nil)))) ⟨Nat.zero_le _, Kd.Own.nil _ _ _ _ _, (Below.refl _ _)⟩ ?_
  rintro ⟨k, u⟩ wL0 ⟨hk, hu, hBL⟩
  refine C_seq ?_
  refine C_seq ?_
  refine C_region ?_
  refine s_v (y_move rfl) ?_
  refine s_v (y_move rfl) ?_
  refine s_v (y_len rfl hv u_sl_api_Public) ?_
  refine s_v (y_bin rfl rfl (fun _ => v_lss)) ?_
  refine G_nil ?_
  refine C_if rfl (fun hc8 => ?_) (fun hc8 => ?_)
  · skip
    replace hk : k < L.length := by omega
    obtain ⟨p, hpk⟩ : ∃ s, L[k]? = some s := ⟨_, List.getElem?_eq_getElem (by omega)⟩
    refine C_skip ?_
    refine C_seq ?_
    refine C_block ?_
    refine C_region ?_
    refine s_v (y_move rfl) ?_
    refine s_v (y_move rfl) ?_
    refine s_v (y_move rfl) ?_
    refine s_idx rfl rfl (hv.keep fun k hk _ => hBL.block k hk) (by omega) hpk u_sl_api_Public i_api_Public ?_
    rintro ad14 _ hF14 ⟨hl14, rfl⟩ hc14
    obtain ⟨p0, p1, p2, p3, p4, p5, p6, p7, p8, p9, rfl⟩ := ten hl14
    refine s_v (y_fieldA rfl u_api_Public rfl i_uint64) ?_
    refine s_v (y_load rfl (fun _ e => e ▸ (hc14.drop 3)) u_uint64) ?_
    refine s_lit (K := Kd.u64) (F := F) (xs := [p3]) rfl rfl rfl rfl u_sl_uint64 i_uint64 rfl (by decide) (by decide) (by simp [Value.cells, Kd.u64, Kd.flat]) (Kd.Els.lits rfl) ?_
    intro v17 w17 h17 hx17
    refine s_append (K := Kd.u64) rfl rfl (hu.ext hx17) ((h17.lower hBL.size).sl (fun k hk => hF k hk)) u_sl_uint64 i_uint64 rfl flat_u64 (by simp [maxLen, innerS]; omega) (by simp [innerS]; omega) (Below.ext hBL hx17 hBL.size).size ?_
    intro v18 w18 h18 hg18 hb18
    have hB18 : Below w.heap.size w w18 := (Below.trans (Below.ext hBL hx17 hBL.size) hb18)
    refine s_v (y_assign rfl) ?_
    refine G_nil ?_
    refine C_region ?_
    refine s_v (y_move rfl) ?_
    refine s_v (y_bin rfl rfl (fun _ => v_add (by omega))) ?_
    refine s_v (y_assign rfl) ?_
    refine G_nil ?_
    refine ⟨(k + 1, v18), .cons rfl (.cons rfl (.cons rfl (.nil))), ⟨by omega, ?_, hB18⟩, by simp only []; omega⟩
    unfold innerS at *
    rw [map_snoc _ L k _ hpk]
    exact h18
  · skip
    obtain rfl : k = L.length := by omega
    rw [show innerS (L.take L.length) = innerS L from by rw [List.take_length]] at hu
    refine C_exit ?_
    refine C_seq ?_
    refine C_region ?_
    refine s_v (y_move rfl) ?_
    refine s_call rfl cl_ref1_Product (ref1_Product_ok (hu.sl (fun k hk => hF k hk))) ?_
    rintro _ _ ⟨rfl, rfl⟩
    refine ⟨_, rfl, ?_⟩
    refine s_v (y_assign rfl) ?_
    refine G_nil ?_
    refine C_ret ?_
    exact ⟨_, (.tmp rfl .nil), rfl, hBL⟩

theorem ref12_SamePublics_ok {F : Nat → Prop} {w : World} {v v2 : Value} {L : List (List UInt64)} (hv : KPub.Sl F w v L) (hv2 : KPub.Sl F w v2 L) (hl : L.length ≤ 1000) :
    Calls Pr N_ref12_SamePublics #[v, v2] w fun e w' => e = .returned (.bool true) ∧ Ext w w' := by
  have hvl := hv.len_le
  simp only [maxLen] at hvl
  refine calls (args := [v, v2]) fn_ref12_SamePublics rfl rfl rfl rfl ?_
  refine C_seq ?_
  refine C_region ?_
  refine s_v (y_assign rfl) ?_
  refine G_nil ?_
  refine C_seq ?_
  refine C_seq ?_
  refine C_region ?_
  refine s_v (y_move rfl) ?_
  refine s_v (y_len rfl hv u_sl_api_Public) ?_
  refine s_v (y_move rfl) ?_
  refine s_v (y_len rfl hv2 u_sl_api_Public) ?_
  refine s_v (y_bin rfl rfl (fun _ => v_neq)) ?_
  refine G_nil ?_
  refine C_if rfl (fun hc10 => ?_) (fun hc10 => ?_)
  · skip
    exact absurd rfl hc10
    /-done-/
  · skip
    refine C_skip ?_
    refine C_seq ?_
    refine C_seq ?_
    refine C_region ?_
    refine s_v (y_assign rfl) ?_
    refine G_nil ?_
    refine C_block ?_
    refine C_loop (α := Nat) (fun k => [(0, v), (1, v2), (5, iv (k : Int))]) (fun k w' => k ≤ L.length ∧ Below w.heap.size w w') (fun k => L.length - k) 0 (.cons rfl (.cons rfl (.cons rfl (.nil)))) ⟨Nat.zero_le _, (Below.refl _ _)⟩ ?_
    rintro k wL0 ⟨hk, hBL⟩
    refine C_seq ?_
    refine C_seq ?_
    refine C_region ?_
    refine s_v (y_move rfl) ?_
    refine s_v (y_move rfl) ?_
    refine s_v (y_len rfl hv u_sl_api_Public) ?_
    refine s_v (y_bin rfl rfl (fun _ => v_lss)) ?_
    refine G_nil ?_
    refine C_if rfl (fun hc14 => ?_) (fun hc14 => ?_)
    · skip
      replace hk : k < L.length := by omega
      obtain ⟨p, hpk⟩ : ∃ s, L[k]? = some s := ⟨_, List.getElem?_eq_getElem (by omega)⟩
      refine C_skip ?_
      refine C_seq ?_
      refine C_block ?_
      refine C_seq ?_
      have hSd : (fun w' => Below w.heap.size w w') wL0.drew := (Below.ext hBL (Ext.drew wL0) hBL.size)
      refine C_draw (S := fun w' => Below w.heap.size w w') rfl rfl ?_
      refine A_take 0 rfl (y_move rfl) hSd (fun _ _ _ h => h) ?_
      refine A_take 1 rfl (y_move rfl) hSd (fun _ _ _ h => h) ?_
      refine A_idx 2 rfl hv rfl rfl (by omega) hpk u_sl_api_Public i_api_Public hSd (fun _ _ _ h => h) ?_
      rintro ad19 _ hF19 ⟨hl19, rfl⟩ hc19
      refine A_take 3 rfl (y_loadA rfl (fun _ e => (hc19.keep fun hk => e.block _ hk)) u_api_Public i_api_Public (by rw [List.length_map]; exact hl19)) hSd (fun _ _ _ h => h) ?_
      refine A_take 4 rfl (y_move rfl) hSd (fun _ _ _ h => h) ?_
      refine A_take 5 rfl (y_move rfl) hSd (fun _ _ _ h => h) ?_
      refine A_idx 6 rfl hv2 rfl rfl (by omega) hpk u_sl_api_Public i_api_Public hSd (fun _ _ _ h => h) ?_
      rintro ad23 _ hF23 ⟨hl23, rfl⟩ hc23
      refine A_take 7 rfl (y_loadA rfl (fun _ e => (hc23.keep fun hk => e.block _ hk)) u_api_Public i_api_Public (by rw [List.length_map]; exact hl23)) hSd (fun _ _ _ h => h) ?_
      refine A_take 8 rfl (y_binA rfl rfl (by kernel_rfl) (v_neqA (eq_api_Public _ hl19))) hSd (fun _ _ _ h => h) ?_
      refine A_done ?_
      refine C_cond rfl (fun hc25 => ?_) (fun hc25 => ?_)
      · skip
        cases hc25
        /-done-/
      · skip
        refine C_skip ?_
        refine C_region ?_
        refine s_v (y_move rfl) ?_
        refine s_v (y_bin rfl rfl (fun _ => v_add (by omega))) ?_
        refine s_v (y_assign rfl) ?_
        refine G_nil ?_
        refine ⟨k + 1, .cons rfl (.cons rfl (.cons rfl (.nil))), ⟨by omega, (Below.ext hBL (Ext.drew wL0) hBL.size)⟩, by omega⟩
    · skip
      refine C_exit ?_
      refine C_seq ?_
      refine C_region ?_
      refine s_v (y_assign rfl) ?_
      refine G_nil ?_
      refine C_ret ?_
      exact ⟨_, (.tmp rfl .nil), rfl, hBL⟩
end Go.Proofs.YtdaphjnenookiaaDoor
