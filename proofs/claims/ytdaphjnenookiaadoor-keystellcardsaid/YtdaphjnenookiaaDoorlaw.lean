/- That the laws of the keys return true, read as lists. -/
import Derived.Test.YtdaphjnenookiaaDoorProg
import Derived.Test.YtdaphjnenookiaaDoorNm
import Derived.Test.YtdaphjnenookiaaDoorwords
import Derived.Test.YtdaphjnenookiaaDoorsha
import Derived.Test.YtdaphjnenookiaaDoorrsha
import Derived.Test.YtdaphjnenookiaaDoorscal
import Derived.Test.YtdaphjnenookiaaDoorgrp
import Derived.Test.YtdaphjnenookiaaDoorprf
import Derived.Test.YtdaphjnenookiaaDoorkys
import Derived.Test.YtdaphjnenookiaaDoorchk
import Derived.Test.YtdaphjnenookiaaDoorbcn
import Derived.Test.YtdaphjnenookiaaDoorlawm
namespace Go.Proofs.YtdaphjnenookiaaDoor
open Go Go.RowKit Go.Proofs
set_option linter.unusedVariables false
set_option linter.unusedSimpArgs false
set_option maxRecDepth 4000


theorem aliveX (x y z : UInt64) (d : List UInt64) : okAll (chainF [[x, y, z]] [d] [[x, y, z]].length).1 37 = true ∧ lenOk (chainF [[x, y, z]] [d] [[x, y, z]].length).1.length = true := ⟨(chain_ok _ _ _).1, by rw [chainF_len]; rfl⟩

theorem law16_alive_ok {w : World} :
    Calls Pr N_law16_alive #[] w fun e w' => e = .returned (.bool true) ∧ Ext w w' := by
  obtain ⟨F, hFd⟩ : ∃ F : Nat → Prop, ∀ k, F k := ⟨fun _ => True, fun _ => trivial⟩
  have hF : ∀ k, w.heap.size ≤ k → F k := fun k _ => hFd k
  refine calls (args := []) fn_law16_alive rfl rfl rfl rfl ?_
  refine C_seq ?_
  refine C_region ?_
  refine s_v (y_assign rfl) ?_
  refine G_nil ?_
  refine C_seq ?_
  refine C_region ?_
  refine s_v (y_buildZ u_api_Key i_api_Key i_uint8) ?_
  refine s_call rfl cl_keys_Make (keys_Make_ok (key := List.replicate 32 0) rfl 0 0 0 (by decide) (by decide) (by decide) hF) ?_
  rintro _ w5 ⟨v5, rfl, h5, hx5⟩
  refine ⟨_, rfl, ?_⟩
  refine s_v (y_move rfl) ?_
  refine s_v (y_extract rfl rfl) ?_
  refine s_v (y_extract rfl rfl) ?_
  refine s_alloc i_api_Secrets ?_
  intro g1 w1 hgB1 hx1 hk1
  have hgb1 := hgB1
  replace hgB1 := Nat.le_trans hx5.size hgB1
  refine s_store rfl rfl hk1 i_api_Secrets rfl (Nat.le_of_ble_eq_true rfl) rfl ?_
  intro w1_6 hg1_6 hk1_6
  have hb1_6 : Below w.heap.size w1 w1_6 := (Below.refl _ _).grown hg1_6 (Below.ext hx5 hx1 hx5.size).size (fun k hk => by cases hk; exact hgB1)
  have hB1_6 : Below w.heap.size w w1_6 := (Below.trans (Below.ext hx5 hx1 hx5.size) hb1_6)
  replace hk1_6 : Blk w1_6 g1 ty_api_Secrets ([(redN (wordS (List.replicate 32 0) (keysN 0 0 0) 0)), (redN (wordS (List.replicate 32 0) (keysN 0 0 0) (0 + 1))), (redN (wordS (List.replicate 32 0) (keysN 0 0 0) (0 + 1 + 1)))].map u64v) := hk1_6
  refine s_v (y_assign rfl) ?_
  refine G_nil ?_
  refine C_seq ?_
  refine C_region ?_
  refine s_call rfl cl_keys_Check (keys_Check_ok (L := []) (Kd.Sl.nil _ F _) (by decide)) ?_
  rintro _ w8 ⟨rfl, hx8⟩
  refine ⟨_, rfl, ?_⟩
  refine s_v (y_un rfl un_not) ?_
  refine s_v (y_move rfl) ?_
  refine G_case 10 rfl (fun hg10 => ?_) (fun hg10 => ?_)
  · skip
    try replace hg10 := of_decide_eq_true hg10
    refine s_yes rfl rfl rfl ?_
    refine s_v (y_move rfl) ?_
    refine s_yes rfl rfl rfl ?_
    refine s_v (y_len_own rfl h5 u_sl_uint64) ?_
    refine s_yes rfl rfl rfl ?_
    refine s_v (y_bin rfl rfl (fun _ => v_eql)) ?_
    refine s_v (y_pick rfl rfl) ?_
    refine s_v (y_move rfl) ?_
    refine G_case 15 rfl (fun hg15 => ?_) (fun hg15 => ?_)
    · skip
      try replace hg15 := of_decide_eq_true hg15
      refine s_yes rfl rfl rfl ?_
      refine s_v (y_loadA rfl (fun _ e => e ▸ ((hk1_6.ext hx8).at_ _)) u_api_Secrets i_api_Secrets rfl) ?_
      refine s_yes rfl rfl rfl ?_
      refine s_lit (K := KSec) (F := F) (xs := [[(redN (wordS (List.replicate 32 0) (keysN 0 0 0) 0)), (redN (wordS (List.replicate 32 0) (keysN 0 0 0) (0 + 1))), (redN (wordS (List.replicate 32 0) (keysN 0 0 0) (0 + 1 + 1)))]]) rfl rfl rfl rfl u_sl_api_Secrets i_api_Secrets rfl (by decide) (by decide) (by simp [Value.cells, KSec, Kd.farr]) (Kd.Els.agg ⟨rfl, rfl⟩) ?_
      intro v17 w17 h17 hx17
      have hB17 : Below w.heap.size w w17 := (Below.ext (Below.ext hB1_6 hx8 hB1_6.size) hx17 (Below.ext hB1_6 hx8 hB1_6.size).size)
      refine s_yes rfl rfl rfl ?_
      refine s_v (y_move rfl) ?_
      refine s_yes rfl rfl rfl ?_
      refine s_litTB (K := (Kd.slice Kd.u64)) (T := ty_uint64) (xs := [(keysD (List.replicate 32 0) (keysN 0 0 0) 3)]) rfl rfl rfl rfl u_sl_sl_uint64 i_sl_uint64 rfl (by decide) (by decide) (fun q hq => by rw [List.mem_singleton.1 hq]; exact Kd.Sl.csz (Kd.Own.tb flat_u64 ((((h5.ext hx1).kb hk1 flat_u64 hg1_6 (by decide)).ext hx8).ext hx17))) (Kd.Sl.el (Kd.Own.tb flat_u64 ((((h5.ext hx1).kb hk1 flat_u64 hg1_6 (by decide)).ext hx8).ext hx17))) ?_
      intro v19 w19 h19 hx19
      refine s_yes rfl rfl rfl ?_
      refine s_call rfl cl_keys_Chain (keys_Chain_ok (F := F) (fun k _ => hFd k) (((h17.lower (Below.ext hB1_6 hx8 hB1_6.size).size).ext hx19).sl (fun k _ => hFd k)) ((Kd.Own.mono (h19.lower hB17.size) (fun k _ _ => hFd k)).sl (fun k _ => hFd k)) (by simp)) ?_
      rintro _ w20 ⟨v20, rfl, h20, hx20⟩
      refine ⟨_, rfl, ?_⟩
      have hB20 : Below w.heap.size w w20 := (Below.ext (Below.ext hB17 hx19 hB17.size) hx20 (Below.ext hB17 hx19 hB17.size).size)
      have hO20 := h20
      replace h20 := h20.lower (Below.ext hB17 hx19 hB17.size).size
      refine s_yes rfl rfl rfl ?_
      refine s_call rfl cl_keys_Check (keys_Check_ok (h20.sl (fun k _ => hFd k)) (by rw [chainF_len]; simp)) ?_
      rintro _ w21 ⟨rfl, hx21⟩
      refine ⟨_, rfl, ?_⟩
      refine s_v (y_pick rfl rfl) ?_
      refine s_v (y_assign rfl) ?_
      refine G_nil ?_
      refine C_ret ?_
      obtain ⟨ha1, ha2⟩ := aliveX (redN (wordS (List.replicate 32 0) (keysN 0 0 0) 0)) (redN (wordS (List.replicate 32 0) (keysN 0 0 0) (0 + 1))) (redN (wordS (List.replicate 32 0) (keysN 0 0 0) (0 + 1 + 1))) (keysD (List.replicate 32 0) (keysN 0 0 0) 3)
      refine ⟨_, (.tmp rfl .nil), ?_, (Below.ext hB20 hx21 hB20.size)⟩
      rw [ha1, ha2]
      rfl
    · skip
      try replace hg15 := of_decide_eq_false hg15
      exact absurd (by simp [keysD]) hg15
      /-done-/
  · skip
    try replace hg10 := of_decide_eq_false hg10
    exact absurd hg10 (by decide)
    /-done-/

theorem law16_KeysCheck_ok {F : Nat → Prop} {w : World} {v : Value} {L : List (List UInt64)} (hv : KPub.Sl F w v L) :
    Calls Pr N_law16_KeysCheck #[v] w fun e w' => e = .returned (.bool true) ∧ Ext w w' := by
  suffices H : ∀ F : Nat → Prop, (∀ k, F k) → KPub.Sl F w v L → Calls Pr N_law16_KeysCheck #[v] w fun e w' => e = .returned (.bool true) ∧ Ext w w' from H (fun _ => True) (fun _ => trivial) (hv.mono fun _ _ _ => trivial)
  clear hv F
  intro F hFd hv
  have hF : ∀ k, w.heap.size ≤ k → F k := fun k _ => hFd k
  have hvl := hv.len_le
  simp only [maxLen] at hvl
  refine calls (args := [v]) fn_law16_KeysCheck rfl rfl rfl rfl ?_
  refine C_seq ?_
  refine C_region ?_
  refine s_v (y_assign rfl) ?_
  refine G_nil ?_
  refine C_seq ?_
  refine C_region ?_
  refine s_call rfl cl_law16_alive (law16_alive_ok ) ?_
  rintro _ w4 ⟨rfl, hx4⟩
  refine ⟨_, rfl, ?_⟩
  refine s_v (y_assign rfl) ?_
  refine G_nil ?_
  refine C_seq ?_
  refine C_seq ?_
  refine C_region ?_
  refine s_v (y_move rfl) ?_
  refine s_v (y_un rfl un_not) ?_
  refine s_v (y_move rfl) ?_
  refine G_case 7 rfl (fun hg7 => ?_) (fun hg7 => ?_)
  · skip
    try replace hg7 := of_decide_eq_true hg7
    exact absurd hg7 (by decide)
    /-done-/
  · skip
    try replace hg7 := of_decide_eq_false hg7
    refine s_yes rfl rfl rfl ?_
    refine s_v (y_move rfl) ?_
    refine s_yes rfl rfl rfl ?_
    refine s_v (y_len rfl hv u_sl_api_Public) ?_
    refine s_yes rfl rfl rfl ?_
    refine s_v (y_bin rfl rfl (fun _ => v_gtr)) ?_
    refine s_v (y_pick rfl rfl) ?_
    refine G_nil ?_
    refine C_if rfl (fun hc11 => ?_) (fun hc11 => ?_)
    · skip
      refine C_seq ?_
      refine C_region ?_
      refine s_v (y_move rfl) ?_
      refine s_v (y_assign rfl) ?_
      refine G_nil ?_
      refine C_ret ?_
      first | exact ⟨_, (.tmp rfl .nil), rfl, hx4⟩ | (refine ⟨_, (.tmp rfl .nil), ?_, hx4⟩; simp [retV])
    · skip
      refine C_skip ?_
      refine C_seq ?_
      refine C_region ?_
      refine s_v (y_move rfl) ?_
      refine s_append (K := KPub) rfl rfl (Kd.Own.nil KPub F w.heap.size ty_api_Public w4) (hv.ext hx4) u_sl_api_Public i_api_Public rfl flat_KPub (by simp [maxLen]; omega) (by simp; omega) hx4.size ?_
      intro v14 w14 h14 hg14 hb14
      rw [List.nil_append] at h14
      refine s_call rfl cl_keys_Check (keys_Check_ok (h14.sl (fun k hk => hF k hk)) (by omega)) ?_
      rintro _ w15 ⟨rfl, hx15⟩
      refine ⟨_, rfl, ?_⟩
      have hB15 : Below w.heap.size w w15 := (Below.ext (Below.trans hx4 hb14) hx15 (Below.trans hx4 hb14).size)
      refine s_v (y_move rfl) ?_
      refine s_call rfl cl_ref12_CheckChain (ref12_CheckChain_ok (hv.keep fun k hk _ => hB15.block k hk) (by omega)) ?_
      rintro _ w17 ⟨rfl, hx17⟩
      refine ⟨_, rfl, ?_⟩
      refine s_v (y_bin rfl rfl (v_eqlB u_bool _ _)) ?_
      refine s_v (y_move rfl) ?_
      refine G_case 19 rfl (fun hg19 => ?_) (fun hg19 => ?_)
      · skip
        try replace hg19 := of_decide_eq_true hg19
        refine s_yes rfl rfl rfl ?_
        refine s_v (y_move rfl) ?_
        refine s_yes rfl rfl rfl ?_
        refine s_call rfl cl_keys_Inner (keys_Inner_ok (fun k hk => hF k (Nat.le_trans (Below.ext hB15 hx17 hB15.size).size hk)) (hv.keep fun k hk _ => (Below.ext hB15 hx17 hB15.size).block k hk) (by omega)) ?_
        rintro _ w21 ⟨rfl, hx21⟩
        refine ⟨_, rfl, ?_⟩
        have hB21 : Below w.heap.size w w21 := (Below.ext (Below.ext hB15 hx17 hB15.size) hx21 (Below.ext hB15 hx17 hB15.size).size)
        refine s_yes rfl rfl rfl ?_
        refine s_v (y_move rfl) ?_
        refine s_yes rfl rfl rfl ?_
        refine s_call rfl cl_ref12_Inner (ref12_Inner_ok (fun k hk => hF k (Nat.le_trans hB21.size hk)) (hv.keep fun k hk _ => hB21.block k hk) (by omega)) ?_
        rintro _ w23 ⟨rfl, hx23⟩
        refine ⟨_, rfl, ?_⟩
        refine s_yes rfl rfl rfl ?_
        refine s_v (y_bin rfl rfl (fun _ => v_eql64 _ _)) ?_
        refine s_v (y_pick rfl rfl) ?_
        refine s_v (y_assign rfl) ?_
        refine G_nil ?_
        refine C_ret ?_
        first | exact ⟨_, (.tmp rfl .nil), rfl, (Below.ext hB21 hx23 hB21.size)⟩ | (refine ⟨_, (.tmp rfl .nil), ?_, (Below.ext hB21 hx23 hB21.size)⟩; simp [retV])
      · skip
        try replace hg19 := of_decide_eq_false hg19
        exact absurd hg19 (by simp)
        /-done-/

theorem sum_snoc {L : List (List UInt64)} {k : Nat} {s : List UInt64} (h : L[k]? = some s) : (((L.take (k + 1)).map fun s => s.getD 2 0).foldl addN 0) = addN (((L.take k).map fun s => s.getD 2 0).foldl addN 0) (s.getD 2 0) := by
  rw [map_snoc _ L k s h, List.foldl_append]; rfl

theorem law16_KeysInner_ok {F : Nat → Prop} {w : World} {v : Value} {L : List (List UInt64)} (hv : KSec.Sl F w v L) :
    Calls Pr N_law16_KeysInner #[v] w fun e w' => e = .returned (.bool true) ∧ Ext w w' := by
  suffices H : ∀ F : Nat → Prop, (∀ k, F k) → KSec.Sl F w v L → Calls Pr N_law16_KeysInner #[v] w fun e w' => e = .returned (.bool true) ∧ Ext w w' from H (fun _ => True) (fun _ => trivial) (hv.mono fun _ _ _ => trivial)
  clear hv F
  intro F hFd hv
  have hF : ∀ k, w.heap.size ≤ k → F k := fun k _ => hFd k
  have hvl := hv.len_le
  simp only [maxLen] at hvl
  refine calls (args := [v]) fn_law16_KeysInner rfl rfl rfl rfl ?_
  refine C_seq ?_
  refine C_region ?_
  refine s_v (y_assign rfl) ?_
  refine G_nil ?_
  refine C_seq ?_
  refine C_region ?_
  refine s_call rfl cl_law16_alive (law16_alive_ok ) ?_
  rintro _ w6 ⟨rfl, hx6⟩
  refine ⟨_, rfl, ?_⟩
  refine s_v (y_assign rfl) ?_
  refine G_nil ?_
  refine C_seq ?_
  refine C_seq ?_
  refine C_region ?_
  refine s_v (y_move rfl) ?_
  refine s_v (y_un rfl un_not) ?_
  refine s_v (y_move rfl) ?_
  refine G_case 9 rfl (fun hg9 => ?_) (fun hg9 => ?_)
  · skip
    try replace hg9 := of_decide_eq_true hg9
    exact absurd hg9 (by decide)
    /-done-/
  · skip
    try replace hg9 := of_decide_eq_false hg9
    refine s_yes rfl rfl rfl ?_
    refine s_v (y_move rfl) ?_
    refine s_yes rfl rfl rfl ?_
    refine s_v (y_len rfl hv u_sl_api_Secrets) ?_
    refine s_yes rfl rfl rfl ?_
    refine s_v (y_bin rfl rfl (fun _ => v_gtr)) ?_
    refine s_v (y_pick rfl rfl) ?_
    refine G_nil ?_
    refine C_if rfl (fun hc13 => ?_) (fun hc13 => ?_)
    · skip
      refine C_seq ?_
      refine C_region ?_
      refine s_v (y_move rfl) ?_
      refine s_v (y_assign rfl) ?_
      refine G_nil ?_
      refine C_ret ?_
      first | exact ⟨_, (.tmp rfl .nil), rfl, hx6⟩ | (refine ⟨_, (.tmp rfl .nil), ?_, hx6⟩; rw [List.take_length, inner_prod, decide_eq_true (Eq.refl _)]; rfl)
    · skip
      refine C_skip ?_
      refine C_seq ?_
      refine C_region ?_
      refine s_v (y_assign (v := u64v 0) rfl) ?_
      refine G_nil ?_
      refine C_seq ?_
      refine C_seq ?_
      refine C_region ?_
      refine s_v (y_assign rfl) ?_
      refine G_nil ?_
      refine C_block ?_
      refine C_loop (α := Nat) (fun k => [(0, v), (4, u64v (((L.take k).map fun s => s.getD 2 0).foldl addN 0)), (5, iv (k : Int))]) (fun k w' => k ≤ L.length ∧ Below w.heap.size w w') (fun k => L.length - k) 0 (.cons rfl (.cons rfl (.cons rfl (.nil)))) ⟨Nat.zero_le _, hx6⟩ ?_
      rintro k wL0 ⟨hk, hBL⟩
      refine C_seq ?_
      refine C_seq ?_
      refine C_region ?_
      refine s_v (y_move rfl) ?_
      refine s_v (y_move rfl) ?_
      refine s_v (y_len rfl hv u_sl_api_Secrets) ?_
      refine s_v (y_bin rfl rfl (fun _ => v_lss)) ?_
      refine G_nil ?_
      refine C_if rfl (fun hc18 => ?_) (fun hc18 => ?_)
      · skip
        replace hk : k < L.length := by omega
        obtain ⟨s, hsk⟩ : ∃ s, L[k]? = some s := ⟨_, List.getElem?_eq_getElem (by omega)⟩
        refine C_skip ?_
        refine C_seq ?_
        refine C_block ?_
        refine C_region ?_
        refine s_v (y_move rfl) ?_
        refine s_v (y_move rfl) ?_
        refine s_v (y_move rfl) ?_
        refine s_idx rfl rfl (hv.keep fun k hk _ => hBL.block k hk) (by omega) hsk u_sl_api_Secrets i_api_Secrets ?_
        rintro ad24 _ hF24 ⟨hl24, rfl⟩ hc24
        obtain ⟨x, y, z, rfl⟩ := three hl24
        refine s_v (y_fieldA rfl u_api_Secrets rfl i_uint64) ?_
        refine s_v (y_load rfl (fun _ e => e ▸ (hc24.drop 2)) u_uint64) ?_
        refine s_call rfl cl_ref1_AddN (ref1_AddN_ok _ _) ?_
        rintro _ _ ⟨rfl, rfl⟩
        refine ⟨_, rfl, ?_⟩
        refine s_v (y_assign rfl) ?_
        refine G_nil ?_
        refine C_region ?_
        refine s_v (y_move rfl) ?_
        refine s_v (y_bin rfl rfl (fun _ => v_add (by omega))) ?_
        refine s_v (y_assign rfl) ?_
        refine G_nil ?_
        refine ⟨k + 1, .cons rfl (.cons (by rw [sum_snoc hsk]; rfl) (.cons rfl .nil)), ⟨by omega, hBL⟩, by omega⟩
      · skip
        obtain rfl : k = L.length := by omega
        refine C_exit ?_
        refine C_seq ?_
        refine C_region ?_
        refine s_v (y_move rfl) ?_
        refine s_call rfl cl_keys_Chain (keys_Chain_ok (F := F) (fun k _ => hFd k) (hv.keep fun k hk _ => hBL.block k hk) (Kd.Sl.nil _ F _) (by omega)) ?_
        rintro _ w29 ⟨v29, rfl, h29, hx29⟩
        refine ⟨_, rfl, ?_⟩
        have hO29 := h29
        replace h29 := h29.lower hBL.size
        refine s_call rfl cl_keys_Inner (keys_Inner_ok (F := F) (fun k _ => hFd k) (h29.sl (fun k _ => hFd k)) (by rw [chainF_len]; omega)) ?_
        rintro _ w30 ⟨rfl, hx30⟩
        refine ⟨_, rfl, ?_⟩
        have hB30 : Below w.heap.size w w30 := (Below.ext (Below.ext hBL hx29 hBL.size) hx30 (Below.ext hBL hx29 hBL.size).size)
        refine s_v (y_move rfl) ?_
        refine s_call rfl cl_ref1_Base (ref1_Base_ok _) ?_
        rintro _ _ ⟨rfl, rfl⟩
        refine ⟨_, rfl, ?_⟩
        refine s_v (y_bin rfl rfl (fun _ => v_eql64 _ _)) ?_
        refine s_v (y_assign rfl) ?_
        refine G_nil ?_
        refine C_ret ?_
        first | exact ⟨_, (.tmp rfl .nil), rfl, hB30⟩ | (refine ⟨_, (.tmp rfl .nil), ?_, hB30⟩; rw [List.take_length, inner_prod, decide_eq_true (Eq.refl _)]; rfl)

theorem sec_len {F : Nat → Prop} {w : World} {v : Value} {L : List (List UInt64)} (hv : KSec.Sl F w v L) {k : Nat} {s : List UInt64} (h : L[k]? = some s) : s.length = 3 := by
  obtain ⟨A, c, cs, _, _, _, he, _⟩ := hv
  obtain ⟨h1, h2⟩ := List.getElem?_eq_some_iff.1 h
  obtain ⟨c1, ds, _, hr⟩ := he.get h1
  rw [h2] at hr
  exact hr.1

theorem law16_KeysTell_ok {F : Nat → Prop} {w : World} {v v2 : Value} {L ds : List (List UInt64)} (b : UInt64) (hv : KSec.Sl F w v L) (hd : (Kd.slice Kd.u64).Sl F w v2 ds) :
    Calls Pr N_law16_KeysTell #[v, v2, u64v b] w fun e w' => e = .returned (.bool true) ∧ Ext w w' := by
  suffices H : ∀ F : Nat → Prop, (∀ k, F k) → KSec.Sl F w v L → (Kd.slice Kd.u64).Sl F w v2 ds → Calls Pr N_law16_KeysTell #[v, v2, u64v b] w fun e w' => e = .returned (.bool true) ∧ Ext w w' from H (fun _ => True) (fun _ => trivial) (hv.mono fun _ _ _ => trivial) (hd.mono fun _ _ _ => trivial)
  clear hv hd F
  intro F hFd hv hd
  have hF : ∀ k, w.heap.size ≤ k → F k := fun k _ => hFd k
  have hvl := hv.len_le
  have hdl := hd.len_le
  simp only [maxLen] at hvl hdl
  refine calls (args := [v, v2, u64v b]) fn_law16_KeysTell rfl rfl rfl rfl ?_
  refine C_seq ?_
  refine C_region ?_
  refine s_v (y_assign rfl) ?_
  refine G_nil ?_
  refine C_seq ?_
  refine C_region ?_
  refine s_call rfl cl_law16_alive (law16_alive_ok ) ?_
  rintro _ w10 ⟨rfl, hx10⟩
  refine ⟨_, rfl, ?_⟩
  refine s_v (y_assign rfl) ?_
  refine G_nil ?_
  refine C_seq ?_
  refine C_seq ?_
  refine C_region ?_
  refine s_v (y_move rfl) ?_
  refine s_v (y_un rfl un_not) ?_
  refine s_v (y_move rfl) ?_
  refine G_case 13 rfl (fun hg13 => ?_) (fun hg13 => ?_)
  · skip
    try replace hg13 := of_decide_eq_true hg13
    exact absurd hg13 (by decide)
    /-done-/
  · skip
    try replace hg13 := of_decide_eq_false hg13
    refine s_yes rfl rfl rfl ?_
    refine s_v (y_move rfl) ?_
    refine s_yes rfl rfl rfl ?_
    refine s_v (y_len rfl hv u_sl_api_Secrets) ?_
    refine s_yes rfl rfl rfl ?_
    refine s_v (y_bin rfl rfl (fun _ => v_gtr)) ?_
    refine s_v (y_pick rfl rfl) ?_
    refine s_v (y_move rfl) ?_
    refine G_case 18 rfl (fun hg18 => ?_) (fun hg18 => ?_)
    · skip
      try replace hg18 := of_decide_eq_true hg18
      refine s_not rfl rfl rfl ?_
      refine s_not rfl rfl rfl ?_
      refine s_not rfl rfl rfl ?_
      refine s_v (y_pick rfl rfl) ?_
      refine G_nil ?_
      refine C_true rfl ?_
      refine C_seq ?_
      refine C_region ?_
      refine s_v (y_move rfl) ?_
      refine s_v (y_assign rfl) ?_
      refine G_nil ?_
      refine C_ret ?_
      exact ⟨_, (.tmp rfl .nil), rfl, hx10⟩
    · skip
      try replace hg18 := of_decide_eq_false hg18
      refine s_yes rfl rfl rfl ?_
      refine s_v (y_move rfl) ?_
      refine s_yes rfl rfl rfl ?_
      refine s_v (y_len rfl hd u_sl_sl_uint64) ?_
      refine s_yes rfl rfl rfl ?_
      refine s_v (y_bin rfl rfl (fun _ => v_gtr)) ?_
      refine s_v (y_pick rfl rfl) ?_
      refine G_nil ?_
      refine C_if rfl (fun hc22 => ?_) (fun hc22 => ?_)
      · skip
        refine C_seq ?_
        refine C_region ?_
        refine s_v (y_move rfl) ?_
        refine s_v (y_assign rfl) ?_
        refine G_nil ?_
        refine C_ret ?_
        exact ⟨_, (.tmp rfl .nil), rfl, hx10⟩
      · skip
        refine C_skip ?_
        refine C_seq ?_
        refine C_region ?_
        refine s_v (y_move rfl) ?_
        refine s_append (K := KSec) rfl rfl (Kd.Own.nil KSec F w.heap.size ty_api_Secrets w10) (hv.ext hx10) u_sl_api_Secrets i_api_Secrets rfl flat_KSec (by simp [maxLen]; omega) (by simp; omega) hx10.size ?_
        intro v25 w25 h25 hg25 hb25
        rw [List.nil_append] at h25
        refine s_v (y_move rfl) ?_
        refine s_call rfl cl_keys_Chain (keys_Chain_ok (fun k hk => hF k (Nat.le_trans (Below.trans hx10 hb25).size hk)) (h25.sl (fun k hk => hF k hk)) (hd.keep fun k hk _ => (Below.trans hx10 hb25).block k hk) (by omega)) ?_
        rintro _ w27 ⟨v27, rfl, h27, hx27⟩
        refine ⟨_, rfl, ?_⟩
        have hB27 : Below w.heap.size w w27 := (Below.ext (Below.trans hx10 hb25) hx27 (Below.trans hx10 hb25).size)
        have hO27 := h27
        replace h27 := h27.lower (Below.trans hx10 hb25).size
        refine s_v (y_assign rfl) ?_
        refine G_nil ?_
        refine C_seq ?_
        refine C_seq ?_
        refine C_region ?_
        refine s_v (y_move rfl) ?_
        refine s_v (y_move rfl) ?_
        refine s_v (y_move rfl) ?_
        refine s_call rfl cl_ref12_Chain (ref12_Chain_ok (fun k hk => hF k (Nat.le_trans hB27.size hk)) (hv.keep fun k hk _ => hB27.block k hk) (hd.keep fun k hk _ => hB27.block k hk) (by omega)) ?_
        rintro _ w31 ⟨v31, rfl, h31, hx31⟩
        refine ⟨_, rfl, ?_⟩
        have hO31 := h31
        replace h31 := h31.lower hB27.size
        refine s_call rfl cl_ref12_SamePublics (ref12_SamePublics_ok ((h27.ext hx31).sl (fun k _ => hFd k)) (h31.sl (fun k _ => hFd k)) (by rw [chainF_len]; omega)) ?_
        rintro _ w32 ⟨rfl, hx32⟩
        refine ⟨_, rfl, ?_⟩
        have hB32 : Below w.heap.size w w32 := (Below.ext (Below.ext hB27 hx31 hB27.size) hx32 (Below.ext hB27 hx31 hB27.size).size)
        refine s_v (y_un rfl un_not) ?_
        refine s_v (y_move rfl) ?_
        refine G_case 34 rfl (fun hg34 => ?_) (fun hg34 => ?_)
        · skip
          try replace hg34 := of_decide_eq_true hg34
          exact absurd hg34 (by decide)
          /-done-/
        · skip
          try replace hg34 := of_decide_eq_false hg34
          refine s_yes rfl rfl rfl ?_
          refine s_v (y_move rfl) ?_
          refine s_yes rfl rfl rfl ?_
          refine s_call rfl cl_keys_Check (keys_Check_ok ((h27.ext (hx31.trans hx32)).sl (fun k _ => hFd k)) (by rw [chainF_len]; omega)) ?_
          rintro _ w36 ⟨rfl, hx36⟩
          refine ⟨_, rfl, ?_⟩
          refine s_yes rfl rfl rfl ?_
          refine s_v (y_move rfl) ?_
          refine s_yes rfl rfl rfl ?_
          refine s_v (y_len rfl hv u_sl_api_Secrets) ?_
          refine s_yes rfl rfl rfl ?_
          refine s_v (y_bin rfl rfl (fun _ => v_geq)) ?_
          refine s_yes rfl rfl rfl ?_
          refine s_v (y_move rfl) ?_
          refine G_case 40 rfl (fun hg40 => ?_) (fun hg40 => ?_)
          · skip
            try replace hg40 := of_decide_eq_true hg40
            refine s_yes rfl rfl rfl ?_
            refine s_v (y_move rfl) ?_
            refine s_yes rfl rfl rfl ?_
            refine s_v (y_len rfl hv u_sl_api_Secrets) ?_
            refine s_yes rfl rfl rfl ?_
            refine s_v (y_bin rfl rfl (fun _ => v_leq)) ?_
            refine s_yes rfl rfl rfl ?_
            refine s_v (y_pick rfl rfl) ?_
            refine s_yes rfl rfl rfl ?_
            refine s_v (y_bin rfl rfl (v_neqB u_bool _ _)) ?_
            refine s_v (y_pick rfl rfl) ?_
            refine s_v (y_move rfl) ?_
            refine G_case 47 rfl (fun hg47 => ?_) (fun hg47 => ?_)
            · skip
              try replace hg47 := of_decide_eq_true hg47
              exact absurd hg47 (by first | (rw [(chain_ok L ds L.length).1, chainF_len, Bool.true_and, len_ok1 hg40]; simp) | (rw [(chain_ok L ds L.length).1, chainF_len, Bool.true_and, len_ok0 hg40]; simp))
              /-done-/
            · skip
              try replace hg47 := of_decide_eq_false hg47
              refine s_yes rfl rfl rfl ?_
              refine s_v (y_move rfl) ?_
              refine s_yes rfl rfl rfl ?_
              refine s_call rfl cl_keys_Inner (keys_Inner_ok (F := F) (fun k _ => hFd k) ((h27.ext ((hx31.trans hx32).trans hx36)).sl (fun k _ => hFd k)) (by rw [chainF_len]; omega)) ?_
              rintro _ w49 ⟨rfl, hx49⟩
              refine ⟨_, rfl, ?_⟩
              have hB49 : Below w.heap.size w w49 := (Below.ext (Below.ext hB32 hx36 hB32.size) hx49 (Below.ext hB32 hx36 hB32.size).size)
              refine s_yes rfl rfl rfl ?_
              refine s_v (y_move rfl) ?_
              refine s_yes rfl rfl rfl ?_
              refine s_call rfl cl_ref12_Inner (ref12_Inner_ok (F := F) (fun k _ => hFd k) ((h27.ext (((hx31.trans hx32).trans hx36).trans hx49)).sl (fun k _ => hFd k)) (by rw [chainF_len]; omega)) ?_
              rintro _ w51 ⟨rfl, hx51⟩
              refine ⟨_, rfl, ?_⟩
              refine s_yes rfl rfl rfl ?_
              refine s_v (y_bin rfl rfl (fun _ => v_neq64 _ _)) ?_
              refine s_v (y_pick rfl rfl) ?_
              refine G_nil ?_
              refine C_if rfl (fun hc53 => ?_) (fun hc53 => ?_)
              · skip
                exact absurd rfl hc53
                /-done-/
              · skip
                refine C_skip ?_
                refine C_seq ?_
                refine C_seq ?_
                refine C_region ?_
                refine s_v (y_move rfl) ?_
                refine s_v (y_len rfl hv u_sl_api_Secrets) ?_
                refine s_v (y_bin rfl rfl (fun _ => v_eql)) ?_
                refine G_nil ?_
                refine C_if rfl (fun hc56 => ?_) (fun hc56 => ?_)
                · skip
                  refine C_seq ?_
                  refine C_region ?_
                  refine s_v (y_assign rfl) ?_
                  refine G_nil ?_
                  refine C_ret ?_
                  exact ⟨_, (.tmp rfl .nil), rfl, (Below.ext hB49 hx51 hB49.size)⟩
                · skip
                  obtain ⟨s, hs0⟩ : ∃ s, L[0]? = some s := ⟨_, List.getElem?_eq_getElem (by omega)⟩
                  obtain ⟨x, y, z, rfl⟩ := three (sec_len hv hs0)
                  refine C_skip ?_
                  refine C_seq ?_
                  refine C_region ?_
                  refine s_v (y_assign rfl) ?_
                  refine G_nil ?_
                  refine C_seq ?_
                  refine C_seq ?_
                  refine C_region ?_
                  refine s_v (y_move rfl) ?_
                  refine s_v (y_len rfl hd u_sl_sl_uint64) ?_
                  refine s_v (y_bin rfl rfl (fun _ => v_gtr)) ?_
                  refine G_nil ?_
                  refine C_if rfl (fun hc59 => ?_) (fun hc59 => ?_)
                  · skip
                    obtain ⟨dd, hdk⟩ : ∃ s, ds[0]? = some s := ⟨_, List.getElem?_eq_getElem (by omega)⟩
                    refine C_region ?_
                    refine s_v (y_move rfl) ?_
                    refine s_idx rfl rfl (hd.keep fun k hk _ => (Below.ext hB49 hx51 hB49.size).block k hk) (by omega) hdk u_sl_sl_uint64 i_sl_uint64 ?_
                    rintro ad61 _ hF61 ⟨v61, rfl, hs61⟩ hc61
                    refine s_v (y_load rfl (fun _ e => e ▸ hc61) u_sl_uint64) ?_
                    refine s_v (y_assign rfl) ?_
                    refine G_nil ?_
                    refine C_seq ?_
                    refine C_draw (S := fun w' => Ext w51.drew w') rfl rfl ?_
                    have hBd12 : Below w.heap.size w w51.drew := (Below.ext (Below.ext hB49 hx51 hB49.size) (Ext.drew w51) (Below.ext hB49 hx51 hB49.size).size)
                    refine A_take 0 rfl (y_move rfl) (Ext.refl _) (fun _ _ _ h => h) ?_
                    refine A_take 1 rfl (y_move rfl) (Ext.refl _) (fun _ _ _ h => h) ?_
                    refine A_idx 2 rfl (hv.keep fun k hk _ => hBd12.block k hk) rfl rfl (by omega) hs0 u_sl_api_Secrets i_api_Secrets (Ext.refl _) (fun _ _ _ h => h) ?_
                    rintro ad65 _ hF65 ⟨hl65, rfl⟩ hc65
                    refine A_take 3 rfl (y_loadA rfl (fun _ e => (hc65).ext e) u_api_Secrets i_api_Secrets rfl) (Ext.refl _) (fun _ _ _ h => h) ?_
                    refine A_take 4 rfl (y_move rfl) (Ext.refl _) (fun _ _ _ h => h) ?_
                    refine A_take 6 rfl (y_move rfl) (Ext.refl _) (fun _ _ _ h => h) ?_
                    refine A_take 7 rfl (y_move rfl) (Ext.refl _) (fun _ _ _ h => h) ?_
                    refine A_idx 8 rfl (hv.keep fun k hk _ => hBd12.block k hk) rfl rfl (by omega) hs0 u_sl_api_Secrets i_api_Secrets (Ext.refl _) (fun _ _ _ h => h) ?_
                    rintro ad71 _ hF71 ⟨hl71, rfl⟩ hc71
                    refine A_take 9 rfl (y_loadA rfl (fun _ e => (hc71).ext e) u_api_Secrets i_api_Secrets rfl) (Ext.refl _) (fun _ _ _ h => h) ?_
                    refine A_take 10 rfl (y_move rfl) (Ext.refl _) (fun _ _ _ h => h) ?_
                    refine A_act 5 rfl ?_
                    refine s_call rfl cl_keys_Tell (keys_Tell_ok _ _ _ _ (hs61.ext (Ext.drew w51))) ?_
                    rintro _ w68 ⟨rfl, hx68⟩
                    refine ⟨_, rfl, ?_⟩
                    refine G_nil ⟨hx68, ?_⟩
                    refine A_act 11 rfl ?_
                    refine s_call rfl cl_ref12_Tell (ref12_Tell_ok _ _ _ _ (hs61.ext ((Ext.drew w51).trans hx68))) ?_
                    rintro _ w74 ⟨rfl, hx74⟩
                    refine ⟨_, rfl, ?_⟩
                    have hB74 : Below w.heap.size w w74 := (Below.ext (Below.ext hBd12 hx68 hBd12.size) hx74 (Below.ext hBd12 hx68 hBd12.size).size)
                    refine G_nil ⟨(hx68.trans hx74), ?_⟩
                    refine A_take 12 rfl (y_binA rfl rfl (by kernel_rfl) (v_eqlA (eq_api_Public _ (tellS_len _ _ _ _ _)))) (hx68.trans hx74) (fun _ _ _ h => h) ?_
                    refine A_take 13 rfl (y_assign rfl) (hx68.trans hx74) (fun _ _ _ h => h) ?_
                    refine A_done ?_
                    refine C_ret ?_
                    exact ⟨_, (.tmp rfl .nil), rfl, hB74⟩
                  · skip
                    obtain ⟨dd, hdd0⟩ : ∃ dd : List UInt64, dd = [] := ⟨[], rfl⟩
                    refine C_skip ?_
                    refine C_seq ?_
                    refine C_draw (S := fun w' => Ext w51.drew w') rfl rfl ?_
                    have hBd12 : Below w.heap.size w w51.drew := (Below.ext (Below.ext hB49 hx51 hB49.size) (Ext.drew w51) (Below.ext hB49 hx51 hB49.size).size)
                    refine A_take 0 rfl (y_move rfl) (Ext.refl _) (fun _ _ _ h => h) ?_
                    refine A_take 1 rfl (y_move rfl) (Ext.refl _) (fun _ _ _ h => h) ?_
                    refine A_idx 2 rfl (hv.keep fun k hk _ => hBd12.block k hk) rfl rfl (by omega) hs0 u_sl_api_Secrets i_api_Secrets (Ext.refl _) (fun _ _ _ h => h) ?_
                    rintro ad65 _ hF65 ⟨hl65, rfl⟩ hc65
                    refine A_take 3 rfl (y_loadA rfl (fun _ e => (hc65).ext e) u_api_Secrets i_api_Secrets rfl) (Ext.refl _) (fun _ _ _ h => h) ?_
                    refine A_take 4 rfl (y_move rfl) (Ext.refl _) (fun _ _ _ h => h) ?_
                    refine A_take 6 rfl (y_move rfl) (Ext.refl _) (fun _ _ _ h => h) ?_
                    refine A_take 7 rfl (y_move rfl) (Ext.refl _) (fun _ _ _ h => h) ?_
                    refine A_idx 8 rfl (hv.keep fun k hk _ => hBd12.block k hk) rfl rfl (by omega) hs0 u_sl_api_Secrets i_api_Secrets (Ext.refl _) (fun _ _ _ h => h) ?_
                    rintro ad71 _ hF71 ⟨hl71, rfl⟩ hc71
                    refine A_take 9 rfl (y_loadA rfl (fun _ e => (hc71).ext e) u_api_Secrets i_api_Secrets rfl) (Ext.refl _) (fun _ _ _ h => h) ?_
                    refine A_take 10 rfl (y_move rfl) (Ext.refl _) (fun _ _ _ h => h) ?_
                    refine A_act 5 rfl ?_
                    refine s_call rfl cl_keys_Tell (keys_Tell_ok _ _ _ _ ((nilSl (F := F) (w := w) hdd0).keep fun k hk _ => hBd12.block k hk)) ?_
                    rintro _ w68 ⟨rfl, hx68⟩
                    refine ⟨_, rfl, ?_⟩
                    refine G_nil ⟨hx68, ?_⟩
                    refine A_act 11 rfl ?_
                    refine s_call rfl cl_ref12_Tell (ref12_Tell_ok _ _ _ _ ((nilSl (F := F) (w := w) hdd0).keep fun k hk _ => (Below.ext hBd12 hx68 hBd12.size).block k hk)) ?_
                    rintro _ w74 ⟨rfl, hx74⟩
                    refine ⟨_, rfl, ?_⟩
                    have hB74 : Below w.heap.size w w74 := (Below.ext (Below.ext hBd12 hx68 hBd12.size) hx74 (Below.ext hBd12 hx68 hBd12.size).size)
                    refine G_nil ⟨(hx68.trans hx74), ?_⟩
                    refine A_take 12 rfl (y_binA rfl rfl (by kernel_rfl) (v_eqlA (eq_api_Public _ (tellS_len _ _ _ _ _)))) (hx68.trans hx74) (fun _ _ _ h => h) ?_
                    refine A_take 13 rfl (y_assign rfl) (hx68.trans hx74) (fun _ _ _ h => h) ?_
                    refine A_done ?_
                    refine C_ret ?_
                    exact ⟨_, (.tmp rfl .nil), rfl, hB74⟩
          · skip
            try replace hg40 := of_decide_eq_false hg40
            refine s_not rfl rfl rfl ?_
            refine s_not rfl rfl rfl ?_
            refine s_not rfl rfl rfl ?_
            refine s_yes rfl rfl rfl ?_
            refine s_v (y_pick rfl rfl) ?_
            refine s_yes rfl rfl rfl ?_
            refine s_v (y_bin rfl rfl (v_neqB u_bool _ _)) ?_
            refine s_v (y_pick rfl rfl) ?_
            refine s_v (y_move rfl) ?_
            refine G_case 47 rfl (fun hg47 => ?_) (fun hg47 => ?_)
            · skip
              try replace hg47 := of_decide_eq_true hg47
              exact absurd hg47 (by first | (rw [(chain_ok L ds L.length).1, chainF_len, Bool.true_and, len_ok1 hg40]; simp) | (rw [(chain_ok L ds L.length).1, chainF_len, Bool.true_and, len_ok0 hg40]; simp))
              /-done-/
            · skip
              try replace hg47 := of_decide_eq_false hg47
              refine s_yes rfl rfl rfl ?_
              refine s_v (y_move rfl) ?_
              refine s_yes rfl rfl rfl ?_
              refine s_call rfl cl_keys_Inner (keys_Inner_ok (F := F) (fun k _ => hFd k) ((h27.ext ((hx31.trans hx32).trans hx36)).sl (fun k _ => hFd k)) (by rw [chainF_len]; omega)) ?_
              rintro _ w49 ⟨rfl, hx49⟩
              refine ⟨_, rfl, ?_⟩
              have hB49 : Below w.heap.size w w49 := (Below.ext (Below.ext hB32 hx36 hB32.size) hx49 (Below.ext hB32 hx36 hB32.size).size)
              refine s_yes rfl rfl rfl ?_
              refine s_v (y_move rfl) ?_
              refine s_yes rfl rfl rfl ?_
              refine s_call rfl cl_ref12_Inner (ref12_Inner_ok (F := F) (fun k _ => hFd k) ((h27.ext (((hx31.trans hx32).trans hx36).trans hx49)).sl (fun k _ => hFd k)) (by rw [chainF_len]; omega)) ?_
              rintro _ w51 ⟨rfl, hx51⟩
              refine ⟨_, rfl, ?_⟩
              refine s_yes rfl rfl rfl ?_
              refine s_v (y_bin rfl rfl (fun _ => v_neq64 _ _)) ?_
              refine s_v (y_pick rfl rfl) ?_
              refine G_nil ?_
              refine C_if rfl (fun hc53 => ?_) (fun hc53 => ?_)
              · skip
                exact absurd rfl hc53
                /-done-/
              · skip
                refine C_skip ?_
                refine C_seq ?_
                refine C_seq ?_
                refine C_region ?_
                refine s_v (y_move rfl) ?_
                refine s_v (y_len rfl hv u_sl_api_Secrets) ?_
                refine s_v (y_bin rfl rfl (fun _ => v_eql)) ?_
                refine G_nil ?_
                refine C_if rfl (fun hc56 => ?_) (fun hc56 => ?_)
                · skip
                  refine C_seq ?_
                  refine C_region ?_
                  refine s_v (y_assign rfl) ?_
                  refine G_nil ?_
                  refine C_ret ?_
                  exact ⟨_, (.tmp rfl .nil), rfl, (Below.ext hB49 hx51 hB49.size)⟩
                · skip
                  obtain ⟨s, hs0⟩ : ∃ s, L[0]? = some s := ⟨_, List.getElem?_eq_getElem (by omega)⟩
                  obtain ⟨x, y, z, rfl⟩ := three (sec_len hv hs0)
                  refine C_skip ?_
                  refine C_seq ?_
                  refine C_region ?_
                  refine s_v (y_assign rfl) ?_
                  refine G_nil ?_
                  refine C_seq ?_
                  refine C_seq ?_
                  refine C_region ?_
                  refine s_v (y_move rfl) ?_
                  refine s_v (y_len rfl hd u_sl_sl_uint64) ?_
                  refine s_v (y_bin rfl rfl (fun _ => v_gtr)) ?_
                  refine G_nil ?_
                  refine C_if rfl (fun hc59 => ?_) (fun hc59 => ?_)
                  · skip
                    obtain ⟨dd, hdk⟩ : ∃ s, ds[0]? = some s := ⟨_, List.getElem?_eq_getElem (by omega)⟩
                    refine C_region ?_
                    refine s_v (y_move rfl) ?_
                    refine s_idx rfl rfl (hd.keep fun k hk _ => (Below.ext hB49 hx51 hB49.size).block k hk) (by omega) hdk u_sl_sl_uint64 i_sl_uint64 ?_
                    rintro ad61 _ hF61 ⟨v61, rfl, hs61⟩ hc61
                    refine s_v (y_load rfl (fun _ e => e ▸ hc61) u_sl_uint64) ?_
                    refine s_v (y_assign rfl) ?_
                    refine G_nil ?_
                    refine C_seq ?_
                    refine C_draw (S := fun w' => Ext w51.drew w') rfl rfl ?_
                    have hBd12 : Below w.heap.size w w51.drew := (Below.ext (Below.ext hB49 hx51 hB49.size) (Ext.drew w51) (Below.ext hB49 hx51 hB49.size).size)
                    refine A_take 0 rfl (y_move rfl) (Ext.refl _) (fun _ _ _ h => h) ?_
                    refine A_take 1 rfl (y_move rfl) (Ext.refl _) (fun _ _ _ h => h) ?_
                    refine A_idx 2 rfl (hv.keep fun k hk _ => hBd12.block k hk) rfl rfl (by omega) hs0 u_sl_api_Secrets i_api_Secrets (Ext.refl _) (fun _ _ _ h => h) ?_
                    rintro ad65 _ hF65 ⟨hl65, rfl⟩ hc65
                    refine A_take 3 rfl (y_loadA rfl (fun _ e => (hc65).ext e) u_api_Secrets i_api_Secrets rfl) (Ext.refl _) (fun _ _ _ h => h) ?_
                    refine A_take 4 rfl (y_move rfl) (Ext.refl _) (fun _ _ _ h => h) ?_
                    refine A_take 6 rfl (y_move rfl) (Ext.refl _) (fun _ _ _ h => h) ?_
                    refine A_take 7 rfl (y_move rfl) (Ext.refl _) (fun _ _ _ h => h) ?_
                    refine A_idx 8 rfl (hv.keep fun k hk _ => hBd12.block k hk) rfl rfl (by omega) hs0 u_sl_api_Secrets i_api_Secrets (Ext.refl _) (fun _ _ _ h => h) ?_
                    rintro ad71 _ hF71 ⟨hl71, rfl⟩ hc71
                    refine A_take 9 rfl (y_loadA rfl (fun _ e => (hc71).ext e) u_api_Secrets i_api_Secrets rfl) (Ext.refl _) (fun _ _ _ h => h) ?_
                    refine A_take 10 rfl (y_move rfl) (Ext.refl _) (fun _ _ _ h => h) ?_
                    refine A_act 5 rfl ?_
                    refine s_call rfl cl_keys_Tell (keys_Tell_ok _ _ _ _ (hs61.ext (Ext.drew w51))) ?_
                    rintro _ w68 ⟨rfl, hx68⟩
                    refine ⟨_, rfl, ?_⟩
                    refine G_nil ⟨hx68, ?_⟩
                    refine A_act 11 rfl ?_
                    refine s_call rfl cl_ref12_Tell (ref12_Tell_ok _ _ _ _ (hs61.ext ((Ext.drew w51).trans hx68))) ?_
                    rintro _ w74 ⟨rfl, hx74⟩
                    refine ⟨_, rfl, ?_⟩
                    have hB74 : Below w.heap.size w w74 := (Below.ext (Below.ext hBd12 hx68 hBd12.size) hx74 (Below.ext hBd12 hx68 hBd12.size).size)
                    refine G_nil ⟨(hx68.trans hx74), ?_⟩
                    refine A_take 12 rfl (y_binA rfl rfl (by kernel_rfl) (v_eqlA (eq_api_Public _ (tellS_len _ _ _ _ _)))) (hx68.trans hx74) (fun _ _ _ h => h) ?_
                    refine A_take 13 rfl (y_assign rfl) (hx68.trans hx74) (fun _ _ _ h => h) ?_
                    refine A_done ?_
                    refine C_ret ?_
                    exact ⟨_, (.tmp rfl .nil), rfl, hB74⟩
                  · skip
                    obtain ⟨dd, hdd0⟩ : ∃ dd : List UInt64, dd = [] := ⟨[], rfl⟩
                    refine C_skip ?_
                    refine C_seq ?_
                    refine C_draw (S := fun w' => Ext w51.drew w') rfl rfl ?_
                    have hBd12 : Below w.heap.size w w51.drew := (Below.ext (Below.ext hB49 hx51 hB49.size) (Ext.drew w51) (Below.ext hB49 hx51 hB49.size).size)
                    refine A_take 0 rfl (y_move rfl) (Ext.refl _) (fun _ _ _ h => h) ?_
                    refine A_take 1 rfl (y_move rfl) (Ext.refl _) (fun _ _ _ h => h) ?_
                    refine A_idx 2 rfl (hv.keep fun k hk _ => hBd12.block k hk) rfl rfl (by omega) hs0 u_sl_api_Secrets i_api_Secrets (Ext.refl _) (fun _ _ _ h => h) ?_
                    rintro ad65 _ hF65 ⟨hl65, rfl⟩ hc65
                    refine A_take 3 rfl (y_loadA rfl (fun _ e => (hc65).ext e) u_api_Secrets i_api_Secrets rfl) (Ext.refl _) (fun _ _ _ h => h) ?_
                    refine A_take 4 rfl (y_move rfl) (Ext.refl _) (fun _ _ _ h => h) ?_
                    refine A_take 6 rfl (y_move rfl) (Ext.refl _) (fun _ _ _ h => h) ?_
                    refine A_take 7 rfl (y_move rfl) (Ext.refl _) (fun _ _ _ h => h) ?_
                    refine A_idx 8 rfl (hv.keep fun k hk _ => hBd12.block k hk) rfl rfl (by omega) hs0 u_sl_api_Secrets i_api_Secrets (Ext.refl _) (fun _ _ _ h => h) ?_
                    rintro ad71 _ hF71 ⟨hl71, rfl⟩ hc71
                    refine A_take 9 rfl (y_loadA rfl (fun _ e => (hc71).ext e) u_api_Secrets i_api_Secrets rfl) (Ext.refl _) (fun _ _ _ h => h) ?_
                    refine A_take 10 rfl (y_move rfl) (Ext.refl _) (fun _ _ _ h => h) ?_
                    refine A_act 5 rfl ?_
                    refine s_call rfl cl_keys_Tell (keys_Tell_ok _ _ _ _ ((nilSl (F := F) (w := w) hdd0).keep fun k hk _ => hBd12.block k hk)) ?_
                    rintro _ w68 ⟨rfl, hx68⟩
                    refine ⟨_, rfl, ?_⟩
                    refine G_nil ⟨hx68, ?_⟩
                    refine A_act 11 rfl ?_
                    refine s_call rfl cl_ref12_Tell (ref12_Tell_ok _ _ _ _ ((nilSl (F := F) (w := w) hdd0).keep fun k hk _ => (Below.ext hBd12 hx68 hBd12.size).block k hk)) ?_
                    rintro _ w74 ⟨rfl, hx74⟩
                    refine ⟨_, rfl, ?_⟩
                    have hB74 : Below w.heap.size w w74 := (Below.ext (Below.ext hBd12 hx68 hBd12.size) hx74 (Below.ext hBd12 hx68 hBd12.size).size)
                    refine G_nil ⟨(hx68.trans hx74), ?_⟩
                    refine A_take 12 rfl (y_binA rfl rfl (by kernel_rfl) (v_eqlA (eq_api_Public _ (tellS_len _ _ _ _ _)))) (hx68.trans hx74) (fun _ _ _ h => h) ?_
                    refine A_take 13 rfl (y_assign rfl) (hx68.trans hx74) (fun _ _ _ h => h) ?_
                    refine A_done ?_
                    refine C_ret ?_
                    exact ⟨_, (.tmp rfl .nil), rfl, hB74⟩
end Go.Proofs.YtdaphjnenookiaaDoor
