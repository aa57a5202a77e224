/- What keys.Tell and keys.Chain compute, in the program and in the reference. -/
import Derived.Test.YtdaphjnenookiaaDoorProg
import Derived.Test.YtdaphjnenookiaaDoorNm
import Derived.Test.YtdaphjnenookiaaDoorwords
import Derived.Test.YtdaphjnenookiaaDoorsha
import Derived.Test.YtdaphjnenookiaaDoorrsha
import Derived.Test.YtdaphjnenookiaaDoorscal
import Derived.Test.YtdaphjnenookiaaDoorgrp
import Derived.Test.YtdaphjnenookiaaDoorprf
namespace Go.Proofs.YtdaphjnenookiaaDoor
open Go Go.RowKit Go.Proofs
set_option linter.unusedVariables false
set_option linter.unusedSimpArgs false
set_option maxRecDepth 4000


/-- What one tells of three secrets. -/
def tellS (b x y z : UInt64) (d : List UInt64) : List UInt64 :=
  [b, timesP b x, timesP b y, baseP z,
   knowC b (timesP b x) (d.getD 0 0), answerS (knowC b (timesP b x) (d.getD 0 0)) x (d.getD 0 0),
   knowC b (timesP b y) (d.getD 1 0), answerS (knowC b (timesP b y) (d.getD 1 0)) y (d.getD 1 0),
   knowC 37 (baseP z) (d.getD 2 0), answerS (knowC 37 (baseP z) (d.getD 2 0)) z (d.getD 2 0)]
theorem getD_at {l : List UInt64} {k : Nat} (h : k < l.length) : l[k]? = some (l.getD k 0) := by
  rw [List.getD_eq_getElem?_getD, List.getElem?_eq_getElem h]; rfl
theorem getD_out {l : List UInt64} {k : Nat} (h : ¬ k < l.length) : l.getD k 0 = 0 := by
  rw [List.getD_eq_getElem?_getD, List.getElem?_eq_none (by omega)]; rfl

theorem keys_draw_ok {F : Nat → Prop} {w : World} {v : Value} {l : List UInt64} (hv : Kd.u64.Sl F w v l) (k : Nat) (hk : k < 100) :
    Calls Pr N_keys_draw #[v, iv (k : Int)] w fun e w' => e = .returned (u64v (l.getD k 0)) ∧ w = w' := by
  refine calls (args := [v, iv (k : Int)]) fn_keys_draw rfl rfl rfl rfl ?_
  refine C_seq ?_
  refine C_region ?_
  refine s_v (y_assign (v := u64v 0) rfl) ?_
  refine G_nil ?_
  refine C_seq ?_
  refine C_seq ?_
  refine C_region ?_
  refine s_v (y_move rfl) ?_
  refine s_v (y_move rfl) ?_
  refine s_v (y_len rfl hv u_sl_uint64) ?_
  refine s_v (y_bin rfl rfl (fun _ => v_lss)) ?_
  refine G_nil ?_
  refine C_if rfl (fun hc8 => ?_) (fun hc8 => ?_)
  · skip
    refine C_seq ?_
    refine C_region ?_
    refine s_v (y_move rfl) ?_
    refine s_v (y_move rfl) ?_
    refine s_idx rfl rfl hv (by omega) (getD_at (k := k) (by omega)) u_sl_uint64 i_uint64 ?_
    rintro ad11 _ hF11 rfl hc11
    refine s_v (y_load rfl (fun _ e => e ▸ hc11) u_uint64) ?_
    refine s_v (y_assign rfl) ?_
    refine G_nil ?_
    refine C_ret ?_
    first | exact ⟨_, (.tmp rfl .nil), rfl, rfl⟩ | (refine ⟨_, (.tmp rfl .nil), ?_, rfl⟩; rw [getD_out (l := l) (k := k) (by omega)]; rfl)
  · skip
    refine C_skip ?_
    refine C_seq ?_
    refine C_region ?_
    refine s_v (y_assign (v := u64v 0) rfl) ?_
    refine G_nil ?_
    refine C_ret ?_
    first | exact ⟨_, (.tmp rfl .nil), rfl, rfl⟩ | (refine ⟨_, (.tmp rfl .nil), ?_, rfl⟩; rw [getD_out (l := l) (k := k) (by omega)]; rfl)

theorem ref12_draw_ok {F : Nat → Prop} {w : World} {v : Value} {l : List UInt64} (hv : Kd.u64.Sl F w v l) (k : Nat) (hk : k < 100) :
    Calls Pr N_ref12_draw #[v, iv (k : Int)] w fun e w' => e = .returned (u64v (l.getD k 0)) ∧ w = w' := by
  refine calls (args := [v, iv (k : Int)]) fn_ref12_draw rfl rfl rfl rfl ?_
  refine C_seq ?_
  refine C_region ?_
  refine s_v (y_assign (v := u64v 0) rfl) ?_
  refine G_nil ?_
  refine C_seq ?_
  refine C_seq ?_
  refine C_region ?_
  refine s_v (y_move rfl) ?_
  refine s_v (y_move rfl) ?_
  refine s_v (y_len rfl hv u_sl_uint64) ?_
  refine s_v (y_bin rfl rfl (fun _ => v_lss)) ?_
  refine G_nil ?_
  refine C_if rfl (fun hc8 => ?_) (fun hc8 => ?_)
  · skip
    refine C_seq ?_
    refine C_region ?_
    refine s_v (y_move rfl) ?_
    refine s_v (y_move rfl) ?_
    refine s_idx rfl rfl hv (by omega) (getD_at (k := k) (by omega)) u_sl_uint64 i_uint64 ?_
    rintro ad11 _ hF11 rfl hc11
    refine s_v (y_load rfl (fun _ e => e ▸ hc11) u_uint64) ?_
    refine s_v (y_assign rfl) ?_
    refine G_nil ?_
    refine C_ret ?_
    first | exact ⟨_, (.tmp rfl .nil), rfl, rfl⟩ | (refine ⟨_, (.tmp rfl .nil), ?_, rfl⟩; rw [getD_out (l := l) (k := k) (by omega)]; rfl)
  · skip
    refine C_skip ?_
    refine C_seq ?_
    refine C_region ?_
    refine s_v (y_assign (v := u64v 0) rfl) ?_
    refine G_nil ?_
    refine C_ret ?_
    first | exact ⟨_, (.tmp rfl .nil), rfl, rfl⟩ | (refine ⟨_, (.tmp rfl .nil), ?_, rfl⟩; rw [getD_out (l := l) (k := k) (by omega)]; rfl)

theorem keys_Tell_ok {F : Nat → Prop} {w : World} {v : Value} (b x y z : UInt64) {d : List UInt64} (hv : Kd.u64.Sl F w v d) :
    Calls Pr N_keys_Tell #[u64v b, .agg #[u64v x, u64v y, u64v z], v] w fun e w' => e = .returned (.agg ((tellS b x y z d).map u64v).toArray) ∧ Ext w w' := by
  refine calls (args := [u64v b, .agg #[u64v x, u64v y, u64v z], v]) fn_keys_Tell rfl rfl rfl rfl ?_
  refine C_seq ?_
  refine C_region ?_
  refine s_box rfl ?_
  intro g4 w4 hgB4 hx4 hk4
  have hgb4 := hgB4
  refine s_alloc i_api_Public ?_
  intro g6 w6 hgB6 hx6 hk6
  have hne_g4_6 : g4 ≠ g6 := Nat.ne_of_lt (Nat.lt_of_lt_of_le hk4.lt hgB6)
  have hgb6 := hgB6
  replace hgB6 := Nat.le_trans hx4.size hgB6
  refine G_nil ?_
  refine C_seq ?_
  have hSd : (fun w' => Blk w' g4 ty_api_Secrets [u64v x, u64v y, u64v z]) w6.drew := ((hk4.ext hx6).ext (Ext.drew w6))
  refine C_draw (S := fun w' => Blk w' g4 ty_api_Secrets [u64v x, u64v y, u64v z]) rfl rfl ?_
  have hBd1 : Below w.heap.size w w6.drew := (Below.ext (Below.ext hx4 hx6 hx4.size) (Ext.drew w6) (Below.ext hx4 hx6 hx4.size).size)
  refine A_take 0 rfl (y_move rfl) hSd (fun _ _ _ h => h) ?_
  refine A_take 1 rfl (y_move rfl) hSd (fun _ _ _ h => h) ?_
  refine A_take 2 rfl (y_fieldB rfl u_api_Secrets rfl i_uint64) hSd (fun _ _ _ h => h) ?_
  refine A_take 3 rfl (y_load rfl (fun _ e => (e.at_ 0)) u_uint64) hSd (fun _ _ _ h => h) ?_
  refine A_take 5 rfl (y_move rfl) hSd (fun _ _ _ h => h) ?_
  refine A_take 6 rfl (y_fieldB rfl u_api_Secrets rfl i_uint64) hSd (fun _ _ _ h => h) ?_
  refine A_take 7 rfl (y_load rfl (fun _ e => (e.at_ 1)) u_uint64) hSd (fun _ _ _ h => h) ?_
  refine A_take 9 rfl (y_fieldB rfl u_api_Secrets rfl i_uint64) hSd (fun _ _ _ h => h) ?_
  refine A_take 10 rfl (y_load rfl (fun _ e => (e.at_ 2)) u_uint64) hSd (fun _ _ _ h => h) ?_
  refine A_act2 4 13 rfl rfl ?_ ?_
  · skip
    refine s_call rfl cl_group_Times (group_Times_ok _ _) ?_
    rintro _ _ ⟨rfl, rfl⟩
    refine ⟨_, rfl, ?_⟩
    have hSd4 : (fun w' => Blk w' g4 ty_api_Secrets [u64v x, u64v y, u64v z]) w6.drew := (hk4.ext (hx6.trans (Ext.drew w6)))
    refine G_nil ⟨hSd4, ?_⟩
    refine A_act2 8 13 rfl rfl ?_ ?_
    · skip
      refine s_call rfl cl_group_Times (group_Times_ok _ _) ?_
      rintro _ _ ⟨rfl, rfl⟩
      refine ⟨_, rfl, ?_⟩
      have hSd8 : (fun w' => Blk w' g4 ty_api_Secrets [u64v x, u64v y, u64v z]) w6.drew := (hk4.ext (hx6.trans (Ext.drew w6)))
      refine G_nil ⟨hSd8, ?_⟩
      refine A_act2 11 13 rfl rfl ?_ ?_
      · skip
        refine s_call rfl cl_group_Base (group_Base_ok _) ?_
        rintro _ _ ⟨rfl, rfl⟩
        refine ⟨_, rfl, ?_⟩
        have hSd11 : (fun w' => Blk w' g4 ty_api_Secrets [u64v x, u64v y, u64v z]) w6.drew := (hk4.ext (hx6.trans (Ext.drew w6)))
        refine G_nil ⟨hSd11, ?_⟩
        refine A_take 12 rfl (y_build rfl u_api_Public i_api_Public pl_api_Public rfl) hSd11 (fun _ _ _ h => h) ?_
        refine A_act 13 rfl ?_
        refine s_alloc i_api_Public ?_
        intro g7 w7 hgB7 hx7 hk7
        have hne_g4_7 : g4 ≠ g7 := Nat.ne_of_lt (Nat.lt_of_lt_of_le (hk4.ext (hx6.trans (Ext.drew w6))).lt hgB7)
        have hne_g6_7 : g6 ≠ g7 := Nat.ne_of_lt (Nat.lt_of_lt_of_le (hk6.ext (Ext.drew w6)).lt hgB7)
        have hgb7 := hgB7
        replace hgB7 := Nat.le_trans hBd1.size hgB7
        have hSd13 : (fun w' => Blk w' g4 ty_api_Secrets [u64v x, u64v y, u64v z]) w7 := (hk4.ext ((hx6.trans (Ext.drew w6)).trans hx7))
        refine G_nil ⟨hSd13, ?_⟩
        refine A_act 14 rfl ?_
        refine s_store rfl rfl hk7 i_api_Public rfl (Nat.le_of_ble_eq_true rfl) rfl ?_
        intro w1_14 hg1_14 hk1_14
        have hb1_14 : Below w.heap.size w7 w1_14 := (Below.refl _ _).grown hg1_14 (Below.ext hBd1 hx7 hBd1.size).size (fun k hk => by cases hk; exact hgB7)
        have hB1_14 : Below w.heap.size w w1_14 := (Below.trans (Below.ext hBd1 hx7 hBd1.size) hb1_14)
        replace hk1_14 : Blk w1_14 g7 ty_api_Public ([b, (timesP b x), (timesP b y), (baseP z), 0, 0, 0, 0, 0, 0].map u64v) := hk1_14
        have hSd14 : (fun w' => Blk w' g4 ty_api_Secrets [u64v x, u64v y, u64v z]) w1_14 := ((((hk4.ext hx6).ext (Ext.drew w6)).ext hx7).far hg1_14 hne_g4_7)
        refine G_nil ⟨hSd14, ?_⟩
        refine A_done ?_
        refine C_seq ?_
        have hSd : (fun w' => Blk w' g4 ty_api_Secrets [u64v x, u64v y, u64v z] ∧ PreAt u64v w' g7 ty_api_Public [b, (timesP b x), (timesP b y), (baseP z)]) w1_14.drew := ⟨(((((hk4.ext hx6).ext (Ext.drew w6)).ext hx7).far hg1_14 hne_g4_7).ext (Ext.drew w1_14)), ⟨_, (hk1_14.ext (Ext.drew w1_14)), rfl⟩⟩
        refine C_draw (S := fun w' => Blk w' g4 ty_api_Secrets [u64v x, u64v y, u64v z] ∧ PreAt u64v w' g7 ty_api_Public [b, (timesP b x), (timesP b y), (baseP z)]) rfl rfl ?_
        have hBd2 : Below w.heap.size w w1_14.drew := (Below.ext hB1_14 (Ext.drew w1_14) hB1_14.size)
        refine A_take 0 rfl (y_move rfl) hSd (fun _ _ _ h => h) ?_
        refine A_take 1 rfl (y_fieldB rfl u_api_Public rfl i_uint64) hSd (fun _ _ _ h => h) ?_
        refine A_take 2 rfl (y_load rfl (fun _ e => (e.2.el (j := 1) rfl rfl)) u_uint64) hSd (fun _ _ _ h => h) ?_
        refine A_take 3 rfl (y_fieldB rfl u_api_Secrets rfl i_uint64) hSd (fun _ _ _ h => h) ?_
        refine A_take 4 rfl (y_load rfl (fun _ e => (e.1.at_ 0)) u_uint64) hSd (fun _ _ _ h => h) ?_
        refine A_take 5 rfl (y_move rfl) hSd (fun _ _ _ h => h) ?_
        refine A_act 6 rfl ?_
        refine s_call rfl cl_keys_draw (keys_draw_ok (hv.keep fun k hk _ => hBd2.block k hk) 0 (by decide)) ?_
        rintro _ _ ⟨rfl, rfl⟩
        refine ⟨_, rfl, ?_⟩
        have hSd6 : (fun w' => Blk w' g4 ty_api_Secrets [u64v x, u64v y, u64v z] ∧ PreAt u64v w' g7 ty_api_Public [b, (timesP b x), (timesP b y), (baseP z)]) w1_14.drew := ⟨(((((hk4.ext hx6).ext (Ext.drew w6)).ext hx7).far hg1_14 hne_g4_7).ext (Ext.drew w1_14)), ⟨_, (hk1_14.ext (Ext.drew w1_14)), rfl⟩⟩
        refine G_nil ⟨hSd6, ?_⟩
        refine A_act 7 rfl ?_
        refine s_call rfl cl_proof_Know (proof_Know_ok _ _ _ _) ?_
        rintro _ w28 ⟨rfl, hx28⟩
        refine ⟨_, rfl, ?_⟩
        have hSd7 : (fun w' => Blk w' g4 ty_api_Secrets [u64v x, u64v y, u64v z] ∧ PreAt u64v w' g7 ty_api_Public [b, (timesP b x), (timesP b y), (baseP z)]) w28 := ⟨((((((hk4.ext hx6).ext (Ext.drew w6)).ext hx7).far hg1_14 hne_g4_7).ext (Ext.drew w1_14)).ext hx28), ⟨_, (hk1_14.ext ((Ext.drew w1_14).trans hx28)), rfl⟩⟩
        refine G_nil ⟨hSd7, ?_⟩
        refine A_take 8 rfl (y_fieldB rfl u_api_Public rfl i_api_Proof) hSd7 (fun _ _ _ h => h) ?_
        refine A_act 9 rfl ?_
        refine s_store rfl rfl (hk1_14.ext ((Ext.drew w1_14).trans hx28)) i_api_Proof rfl (Nat.le_of_ble_eq_true rfl) rfl ?_
        intro w2_9 hg2_9 hk2_9
        have hb2_9 : Below w.heap.size w28 w2_9 := (Below.refl _ _).grown hg2_9 (Below.ext hBd2 hx28 hBd2.size).size (fun k hk => by cases hk; exact hgB7)
        have hB2_9 : Below w.heap.size w w2_9 := (Below.trans (Below.ext hBd2 hx28 hBd2.size) hb2_9)
        replace hk2_9 : Blk w2_9 g7 ty_api_Public ([b, (timesP b x), (timesP b y), (baseP z), (knowC b (timesP b x) (d.getD 0 0)), (answerS (knowC b (timesP b x) (d.getD 0 0)) x (d.getD 0 0)), 0, 0, 0, 0].map u64v) := hk2_9
        have hSd9 : (fun w' => Blk w' g4 ty_api_Secrets [u64v x, u64v y, u64v z] ∧ PreAt u64v w' g7 ty_api_Public [b, (timesP b x), (timesP b y), (baseP z)]) w2_9 := ⟨(((((((hk4.ext hx6).ext (Ext.drew w6)).ext hx7).far hg1_14 hne_g4_7).ext (Ext.drew w1_14)).ext hx28).far hg2_9 hne_g4_7), ⟨_, hk2_9, rfl⟩⟩
        refine G_nil ⟨hSd9, ?_⟩
        refine A_done ?_
        refine C_seq ?_
        have hSd : (fun w' => Blk w' g4 ty_api_Secrets [u64v x, u64v y, u64v z] ∧ PreAt u64v w' g7 ty_api_Public [b, (timesP b x), (timesP b y), (baseP z)]) w2_9.drew := ⟨((((((((hk4.ext hx6).ext (Ext.drew w6)).ext hx7).far hg1_14 hne_g4_7).ext (Ext.drew w1_14)).ext hx28).far hg2_9 hne_g4_7).ext (Ext.drew w2_9)), ⟨_, (hk2_9.ext (Ext.drew w2_9)), rfl⟩⟩
        refine C_draw (S := fun w' => Blk w' g4 ty_api_Secrets [u64v x, u64v y, u64v z] ∧ PreAt u64v w' g7 ty_api_Public [b, (timesP b x), (timesP b y), (baseP z)]) rfl rfl ?_
        have hBd3 : Below w.heap.size w w2_9.drew := (Below.ext hB2_9 (Ext.drew w2_9) hB2_9.size)
        refine A_take 0 rfl (y_move rfl) hSd (fun _ _ _ h => h) ?_
        refine A_take 1 rfl (y_fieldB rfl u_api_Public rfl i_uint64) hSd (fun _ _ _ h => h) ?_
        refine A_take 2 rfl (y_load rfl (fun _ e => (e.2.el (j := 2) rfl rfl)) u_uint64) hSd (fun _ _ _ h => h) ?_
        refine A_take 3 rfl (y_fieldB rfl u_api_Secrets rfl i_uint64) hSd (fun _ _ _ h => h) ?_
        refine A_take 4 rfl (y_load rfl (fun _ e => (e.1.at_ 1)) u_uint64) hSd (fun _ _ _ h => h) ?_
        refine A_take 5 rfl (y_move rfl) hSd (fun _ _ _ h => h) ?_
        refine A_act 6 rfl ?_
        refine s_call rfl cl_keys_draw (keys_draw_ok (hv.keep fun k hk _ => hBd3.block k hk) 1 (by decide)) ?_
        rintro _ _ ⟨rfl, rfl⟩
        refine ⟨_, rfl, ?_⟩
        have hSd6 : (fun w' => Blk w' g4 ty_api_Secrets [u64v x, u64v y, u64v z] ∧ PreAt u64v w' g7 ty_api_Public [b, (timesP b x), (timesP b y), (baseP z)]) w2_9.drew := ⟨((((((((hk4.ext hx6).ext (Ext.drew w6)).ext hx7).far hg1_14 hne_g4_7).ext (Ext.drew w1_14)).ext hx28).far hg2_9 hne_g4_7).ext (Ext.drew w2_9)), ⟨_, (hk2_9.ext (Ext.drew w2_9)), rfl⟩⟩
        refine G_nil ⟨hSd6, ?_⟩
        refine A_act 7 rfl ?_
        refine s_call rfl cl_proof_Know (proof_Know_ok _ _ _ _) ?_
        rintro _ w37 ⟨rfl, hx37⟩
        refine ⟨_, rfl, ?_⟩
        have hSd7 : (fun w' => Blk w' g4 ty_api_Secrets [u64v x, u64v y, u64v z] ∧ PreAt u64v w' g7 ty_api_Public [b, (timesP b x), (timesP b y), (baseP z)]) w37 := ⟨(((((((((hk4.ext hx6).ext (Ext.drew w6)).ext hx7).far hg1_14 hne_g4_7).ext (Ext.drew w1_14)).ext hx28).far hg2_9 hne_g4_7).ext (Ext.drew w2_9)).ext hx37), ⟨_, (hk2_9.ext ((Ext.drew w2_9).trans hx37)), rfl⟩⟩
        refine G_nil ⟨hSd7, ?_⟩
        refine A_take 8 rfl (y_fieldB rfl u_api_Public rfl i_api_Proof) hSd7 (fun _ _ _ h => h) ?_
        refine A_act 9 rfl ?_
        refine s_store rfl rfl (hk2_9.ext ((Ext.drew w2_9).trans hx37)) i_api_Proof rfl (Nat.le_of_ble_eq_true rfl) rfl ?_
        intro w3_9 hg3_9 hk3_9
        have hb3_9 : Below w.heap.size w37 w3_9 := (Below.refl _ _).grown hg3_9 (Below.ext hBd3 hx37 hBd3.size).size (fun k hk => by cases hk; exact hgB7)
        have hB3_9 : Below w.heap.size w w3_9 := (Below.trans (Below.ext hBd3 hx37 hBd3.size) hb3_9)
        replace hk3_9 : Blk w3_9 g7 ty_api_Public ([b, (timesP b x), (timesP b y), (baseP z), (knowC b (timesP b x) (d.getD 0 0)), (answerS (knowC b (timesP b x) (d.getD 0 0)) x (d.getD 0 0)), (knowC b (timesP b y) (d.getD 1 0)), (answerS (knowC b (timesP b y) (d.getD 1 0)) y (d.getD 1 0)), 0, 0].map u64v) := hk3_9
        have hSd9 : (fun w' => Blk w' g4 ty_api_Secrets [u64v x, u64v y, u64v z] ∧ PreAt u64v w' g7 ty_api_Public [b, (timesP b x), (timesP b y), (baseP z)]) w3_9 := ⟨((((((((((hk4.ext hx6).ext (Ext.drew w6)).ext hx7).far hg1_14 hne_g4_7).ext (Ext.drew w1_14)).ext hx28).far hg2_9 hne_g4_7).ext (Ext.drew w2_9)).ext hx37).far hg3_9 hne_g4_7), ⟨_, hk3_9, rfl⟩⟩
        refine G_nil ⟨hSd9, ?_⟩
        refine A_done ?_
        refine C_seq ?_
        have hSd : (fun w' => Blk w' g4 ty_api_Secrets [u64v x, u64v y, u64v z] ∧ PreAt u64v w' g7 ty_api_Public [b, (timesP b x), (timesP b y), (baseP z)]) w3_9.drew := ⟨(((((((((((hk4.ext hx6).ext (Ext.drew w6)).ext hx7).far hg1_14 hne_g4_7).ext (Ext.drew w1_14)).ext hx28).far hg2_9 hne_g4_7).ext (Ext.drew w2_9)).ext hx37).far hg3_9 hne_g4_7).ext (Ext.drew w3_9)), ⟨_, (hk3_9.ext (Ext.drew w3_9)), rfl⟩⟩
        refine C_draw (S := fun w' => Blk w' g4 ty_api_Secrets [u64v x, u64v y, u64v z] ∧ PreAt u64v w' g7 ty_api_Public [b, (timesP b x), (timesP b y), (baseP z)]) rfl rfl ?_
        have hBd4 : Below w.heap.size w w3_9.drew := (Below.ext hB3_9 (Ext.drew w3_9) hB3_9.size)
        refine A_take 0 rfl (y_fieldB rfl u_api_Public rfl i_uint64) hSd (fun _ _ _ h => h) ?_
        refine A_take 1 rfl (y_load rfl (fun _ e => (e.2.el (j := 3) rfl rfl)) u_uint64) hSd (fun _ _ _ h => h) ?_
        refine A_take 2 rfl (y_fieldB rfl u_api_Secrets rfl i_uint64) hSd (fun _ _ _ h => h) ?_
        refine A_take 3 rfl (y_load rfl (fun _ e => (e.1.at_ 2)) u_uint64) hSd (fun _ _ _ h => h) ?_
        refine A_take 4 rfl (y_move rfl) hSd (fun _ _ _ h => h) ?_
        refine A_act 5 rfl ?_
        refine s_call rfl cl_keys_draw (keys_draw_ok (hv.keep fun k hk _ => hBd4.block k hk) 2 (by decide)) ?_
        rintro _ _ ⟨rfl, rfl⟩
        refine ⟨_, rfl, ?_⟩
        have hSd5 : (fun w' => Blk w' g4 ty_api_Secrets [u64v x, u64v y, u64v z] ∧ PreAt u64v w' g7 ty_api_Public [b, (timesP b x), (timesP b y), (baseP z)]) w3_9.drew := ⟨(((((((((((hk4.ext hx6).ext (Ext.drew w6)).ext hx7).far hg1_14 hne_g4_7).ext (Ext.drew w1_14)).ext hx28).far hg2_9 hne_g4_7).ext (Ext.drew w2_9)).ext hx37).far hg3_9 hne_g4_7).ext (Ext.drew w3_9)), ⟨_, (hk3_9.ext (Ext.drew w3_9)), rfl⟩⟩
        refine G_nil ⟨hSd5, ?_⟩
        refine A_act 6 rfl ?_
        refine s_call rfl cl_proof_Know (proof_Know_ok 37 _ _ _) ?_
        rintro _ w45 ⟨rfl, hx45⟩
        refine ⟨_, rfl, ?_⟩
        have hSd6 : (fun w' => Blk w' g4 ty_api_Secrets [u64v x, u64v y, u64v z] ∧ PreAt u64v w' g7 ty_api_Public [b, (timesP b x), (timesP b y), (baseP z)]) w45 := ⟨((((((((((((hk4.ext hx6).ext (Ext.drew w6)).ext hx7).far hg1_14 hne_g4_7).ext (Ext.drew w1_14)).ext hx28).far hg2_9 hne_g4_7).ext (Ext.drew w2_9)).ext hx37).far hg3_9 hne_g4_7).ext (Ext.drew w3_9)).ext hx45), ⟨_, (hk3_9.ext ((Ext.drew w3_9).trans hx45)), rfl⟩⟩
        refine G_nil ⟨hSd6, ?_⟩
        refine A_take 7 rfl (y_fieldB rfl u_api_Public rfl i_api_Proof) hSd6 (fun _ _ _ h => h) ?_
        refine A_act 8 rfl ?_
        refine s_store rfl rfl (hk3_9.ext ((Ext.drew w3_9).trans hx45)) i_api_Proof rfl (Nat.le_of_ble_eq_true rfl) rfl ?_
        intro w4_8 hg4_8 hk4_8
        have hb4_8 : Below w.heap.size w45 w4_8 := (Below.refl _ _).grown hg4_8 (Below.ext hBd4 hx45 hBd4.size).size (fun k hk => by cases hk; exact hgB7)
        have hB4_8 : Below w.heap.size w w4_8 := (Below.trans (Below.ext hBd4 hx45 hBd4.size) hb4_8)
        replace hk4_8 : Blk w4_8 g7 ty_api_Public ([b, (timesP b x), (timesP b y), (baseP z), (knowC b (timesP b x) (d.getD 0 0)), (answerS (knowC b (timesP b x) (d.getD 0 0)) x (d.getD 0 0)), (knowC b (timesP b y) (d.getD 1 0)), (answerS (knowC b (timesP b y) (d.getD 1 0)) y (d.getD 1 0)), (knowC 37 (baseP z) (d.getD 2 0)), (answerS (knowC 37 (baseP z) (d.getD 2 0)) z (d.getD 2 0))].map u64v) := hk4_8
        have hSd8 : (fun w' => Blk w' g4 ty_api_Secrets [u64v x, u64v y, u64v z] ∧ PreAt u64v w' g7 ty_api_Public [b, (timesP b x), (timesP b y), (baseP z)]) w4_8 := ⟨(((((((((((((hk4.ext hx6).ext (Ext.drew w6)).ext hx7).far hg1_14 hne_g4_7).ext (Ext.drew w1_14)).ext hx28).far hg2_9 hne_g4_7).ext (Ext.drew w2_9)).ext hx37).far hg3_9 hne_g4_7).ext (Ext.drew w3_9)).ext hx45).far hg4_8 hne_g4_7), ⟨_, hk4_8, rfl⟩⟩
        refine G_nil ⟨hSd8, ?_⟩
        refine A_done ?_
        refine C_seq ?_
        refine C_region ?_
        refine s_v (y_loadA rfl (fun _ e => e ▸ (hk4_8.at_ _)) u_api_Public i_api_Public rfl) ?_
        refine s_store rfl rfl ((((((((((((hk6.ext (Ext.drew w6)).ext hx7).far hg1_14 hne_g6_7).ext (Ext.drew w1_14)).ext hx28).far hg2_9 hne_g6_7).ext (Ext.drew w2_9)).ext hx37).far hg3_9 hne_g6_7).ext (Ext.drew w3_9)).ext hx45).far hg4_8 hne_g6_7) i_api_Public rfl (Nat.le_of_ble_eq_true rfl) rfl ?_
        intro w5_1 hg5_1 hk5_1
        have hb5_1 : Below w.heap.size w4_8 w5_1 := (Below.refl _ _).grown hg5_1 hB4_8.size (fun k hk => by cases hk; exact hgB6)
        replace hk5_1 : Blk w5_1 g6 ty_api_Public ((tellS b x y z d).map u64v) := hk5_1
        refine G_nil ?_
        refine C_ret ?_
        exact ⟨_, (.cell rfl (ldA (hk5_1.at_ _) u_api_Public i_api_Public rfl) .nil), rfl, (Below.trans hB4_8 hb5_1)⟩
      · skip
        refine s_alloc i_api_Public ?_
        intro g7 w7 hgB7 hx7 hk7
        have hne_g4_7 : g4 ≠ g7 := Nat.ne_of_lt (Nat.lt_of_lt_of_le (hk4.ext (hx6.trans (Ext.drew w6))).lt hgB7)
        have hne_g6_7 : g6 ≠ g7 := Nat.ne_of_lt (Nat.lt_of_lt_of_le (hk6.ext (Ext.drew w6)).lt hgB7)
        have hgb7 := hgB7
        replace hgB7 := Nat.le_trans hBd1.size hgB7
        have hSd13 : (fun w' => Blk w' g4 ty_api_Secrets [u64v x, u64v y, u64v z]) w7 := (hk4.ext ((hx6.trans (Ext.drew w6)).trans hx7))
        refine G_nil ⟨hSd13, ?_⟩
        refine A_act 11 rfl ?_
        refine s_call rfl cl_group_Base (group_Base_ok _) ?_
        rintro _ _ ⟨rfl, rfl⟩
        refine ⟨_, rfl, ?_⟩
        have hSd11 : (fun w' => Blk w' g4 ty_api_Secrets [u64v x, u64v y, u64v z]) w7 := (hk4.ext ((hx6.trans (Ext.drew w6)).trans hx7))
        refine G_nil ⟨hSd11, ?_⟩
        refine A_take 12 rfl (y_build rfl u_api_Public i_api_Public pl_api_Public rfl) hSd11 (fun _ _ _ h => h) ?_
        refine A_act 14 rfl ?_
        refine s_store rfl rfl hk7 i_api_Public rfl (Nat.le_of_ble_eq_true rfl) rfl ?_
        intro w1_14 hg1_14 hk1_14
        have hb1_14 : Below w.heap.size w7 w1_14 := (Below.refl _ _).grown hg1_14 (Below.ext hBd1 hx7 hBd1.size).size (fun k hk => by cases hk; exact hgB7)
        have hB1_14 : Below w.heap.size w w1_14 := (Below.trans (Below.ext hBd1 hx7 hBd1.size) hb1_14)
        replace hk1_14 : Blk w1_14 g7 ty_api_Public ([b, (timesP b x), (timesP b y), (baseP z), 0, 0, 0, 0, 0, 0].map u64v) := hk1_14
        have hSd14 : (fun w' => Blk w' g4 ty_api_Secrets [u64v x, u64v y, u64v z]) w1_14 := ((((hk4.ext hx6).ext (Ext.drew w6)).ext hx7).far hg1_14 hne_g4_7)
        refine G_nil ⟨hSd14, ?_⟩
        refine A_done ?_
        refine C_seq ?_
        have hSd : (fun w' => Blk w' g4 ty_api_Secrets [u64v x, u64v y, u64v z] ∧ PreAt u64v w' g7 ty_api_Public [b, (timesP b x), (timesP b y), (baseP z)]) w1_14.drew := ⟨(((((hk4.ext hx6).ext (Ext.drew w6)).ext hx7).far hg1_14 hne_g4_7).ext (Ext.drew w1_14)), ⟨_, (hk1_14.ext (Ext.drew w1_14)), rfl⟩⟩
        refine C_draw (S := fun w' => Blk w' g4 ty_api_Secrets [u64v x, u64v y, u64v z] ∧ PreAt u64v w' g7 ty_api_Public [b, (timesP b x), (timesP b y), (baseP z)]) rfl rfl ?_
        have hBd2 : Below w.heap.size w w1_14.drew := (Below.ext hB1_14 (Ext.drew w1_14) hB1_14.size)
        refine A_take 0 rfl (y_move rfl) hSd (fun _ _ _ h => h) ?_
        refine A_take 1 rfl (y_fieldB rfl u_api_Public rfl i_uint64) hSd (fun _ _ _ h => h) ?_
        refine A_take 2 rfl (y_load rfl (fun _ e => (e.2.el (j := 1) rfl rfl)) u_uint64) hSd (fun _ _ _ h => h) ?_
        refine A_take 3 rfl (y_fieldB rfl u_api_Secrets rfl i_uint64) hSd (fun _ _ _ h => h) ?_
        refine A_take 4 rfl (y_load rfl (fun _ e => (e.1.at_ 0)) u_uint64) hSd (fun _ _ _ h => h) ?_
        refine A_take 5 rfl (y_move rfl) hSd (fun _ _ _ h => h) ?_
        refine A_act 6 rfl ?_
        refine s_call rfl cl_keys_draw (keys_draw_ok (hv.keep fun k hk _ => hBd2.block k hk) 0 (by decide)) ?_
        rintro _ _ ⟨rfl, rfl⟩
        refine ⟨_, rfl, ?_⟩
        have hSd6 : (fun w' => Blk w' g4 ty_api_Secrets [u64v x, u64v y, u64v z] ∧ PreAt u64v w' g7 ty_api_Public [b, (timesP b x), (timesP b y), (baseP z)]) w1_14.drew := ⟨(((((hk4.ext hx6).ext (Ext.drew w6)).ext hx7).far hg1_14 hne_g4_7).ext (Ext.drew w1_14)), ⟨_, (hk1_14.ext (Ext.drew w1_14)), rfl⟩⟩
        refine G_nil ⟨hSd6, ?_⟩
        refine A_act 7 rfl ?_
        refine s_call rfl cl_proof_Know (proof_Know_ok _ _ _ _) ?_
        rintro _ w28 ⟨rfl, hx28⟩
        refine ⟨_, rfl, ?_⟩
        have hSd7 : (fun w' => Blk w' g4 ty_api_Secrets [u64v x, u64v y, u64v z] ∧ PreAt u64v w' g7 ty_api_Public [b, (timesP b x), (timesP b y), (baseP z)]) w28 := ⟨((((((hk4.ext hx6).ext (Ext.drew w6)).ext hx7).far hg1_14 hne_g4_7).ext (Ext.drew w1_14)).ext hx28), ⟨_, (hk1_14.ext ((Ext.drew w1_14).trans hx28)), rfl⟩⟩
        refine G_nil ⟨hSd7, ?_⟩
        refine A_take 8 rfl (y_fieldB rfl u_api_Public rfl i_api_Proof) hSd7 (fun _ _ _ h => h) ?_
        refine A_act 9 rfl ?_
        refine s_store rfl rfl (hk1_14.ext ((Ext.drew w1_14).trans hx28)) i_api_Proof rfl (Nat.le_of_ble_eq_true rfl) rfl ?_
        intro w2_9 hg2_9 hk2_9
        have hb2_9 : Below w.heap.size w28 w2_9 := (Below.refl _ _).grown hg2_9 (Below.ext hBd2 hx28 hBd2.size).size (fun k hk => by cases hk; exact hgB7)
        have hB2_9 : Below w.heap.size w w2_9 := (Below.trans (Below.ext hBd2 hx28 hBd2.size) hb2_9)
        replace hk2_9 : Blk w2_9 g7 ty_api_Public ([b, (timesP b x), (timesP b y), (baseP z), (knowC b (timesP b x) (d.getD 0 0)), (answerS (knowC b (timesP b x) (d.getD 0 0)) x (d.getD 0 0)), 0, 0, 0, 0].map u64v) := hk2_9
        have hSd9 : (fun w' => Blk w' g4 ty_api_Secrets [u64v x, u64v y, u64v z] ∧ PreAt u64v w' g7 ty_api_Public [b, (timesP b x), (timesP b y), (baseP z)]) w2_9 := ⟨(((((((hk4.ext hx6).ext (Ext.drew w6)).ext hx7).far hg1_14 hne_g4_7).ext (Ext.drew w1_14)).ext hx28).far hg2_9 hne_g4_7), ⟨_, hk2_9, rfl⟩⟩
        refine G_nil ⟨hSd9, ?_⟩
        refine A_done ?_
        refine C_seq ?_
        have hSd : (fun w' => Blk w' g4 ty_api_Secrets [u64v x, u64v y, u64v z] ∧ PreAt u64v w' g7 ty_api_Public [b, (timesP b x), (timesP b y), (baseP z)]) w2_9.drew := ⟨((((((((hk4.ext hx6).ext (Ext.drew w6)).ext hx7).far hg1_14 hne_g4_7).ext (Ext.drew w1_14)).ext hx28).far hg2_9 hne_g4_7).ext (Ext.drew w2_9)), ⟨_, (hk2_9.ext (Ext.drew w2_9)), rfl⟩⟩
        refine C_draw (S := fun w' => Blk w' g4 ty_api_Secrets [u64v x, u64v y, u64v z] ∧ PreAt u64v w' g7 ty_api_Public [b, (timesP b x), (timesP b y), (baseP z)]) rfl rfl ?_
        have hBd3 : Below w.heap.size w w2_9.drew := (Below.ext hB2_9 (Ext.drew w2_9) hB2_9.size)
        refine A_take 0 rfl (y_move rfl) hSd (fun _ _ _ h => h) ?_
        refine A_take 1 rfl (y_fieldB rfl u_api_Public rfl i_uint64) hSd (fun _ _ _ h => h) ?_
        refine A_take 2 rfl (y_load rfl (fun _ e => (e.2.el (j := 2) rfl rfl)) u_uint64) hSd (fun _ _ _ h => h) ?_
        refine A_take 3 rfl (y_fieldB rfl u_api_Secrets rfl i_uint64) hSd (fun _ _ _ h => h) ?_
        refine A_take 4 rfl (y_load rfl (fun _ e => (e.1.at_ 1)) u_uint64) hSd (fun _ _ _ h => h) ?_
        refine A_take 5 rfl (y_move rfl) hSd (fun _ _ _ h => h) ?_
        refine A_act 6 rfl ?_
        refine s_call rfl cl_keys_draw (keys_draw_ok (hv.keep fun k hk _ => hBd3.block k hk) 1 (by decide)) ?_
        rintro _ _ ⟨rfl, rfl⟩
        refine ⟨_, rfl, ?_⟩
        have hSd6 : (fun w' => Blk w' g4 ty_api_Secrets [u64v x, u64v y, u64v z] ∧ PreAt u64v w' g7 ty_api_Public [b, (timesP b x), (timesP b y), (baseP z)]) w2_9.drew := ⟨((((((((hk4.ext hx6).ext (Ext.drew w6)).ext hx7).far hg1_14 hne_g4_7).ext (Ext.drew w1_14)).ext hx28).far hg2_9 hne_g4_7).ext (Ext.drew w2_9)), ⟨_, (hk2_9.ext (Ext.drew w2_9)), rfl⟩⟩
        refine G_nil ⟨hSd6, ?_⟩
        refine A_act 7 rfl ?_
        refine s_call rfl cl_proof_Know (proof_Know_ok _ _ _ _) ?_
        rintro _ w37 ⟨rfl, hx37⟩
        refine ⟨_, rfl, ?_⟩
        have hSd7 : (fun w' => Blk w' g4 ty_api_Secrets [u64v x, u64v y, u64v z] ∧ PreAt u64v w' g7 ty_api_Public [b, (timesP b x), (timesP b y), (baseP z)]) w37 := ⟨(((((((((hk4.ext hx6).ext (Ext.drew w6)).ext hx7).far hg1_14 hne_g4_7).ext (Ext.drew w1_14)).ext hx28).far hg2_9 hne_g4_7).ext (Ext.drew w2_9)).ext hx37), ⟨_, (hk2_9.ext ((Ext.drew w2_9).trans hx37)), rfl⟩⟩
        refine G_nil ⟨hSd7, ?_⟩
        refine A_take 8 rfl (y_fieldB rfl u_api_Public rfl i_api_Proof) hSd7 (fun _ _ _ h => h) ?_
        refine A_act 9 rfl ?_
        refine s_store rfl rfl (hk2_9.ext ((Ext.drew w2_9).trans hx37)) i_api_Proof rfl (Nat.le_of_ble_eq_true rfl) rfl ?_
        intro w3_9 hg3_9 hk3_9
        have hb3_9 : Below w.heap.size w37 w3_9 := (Below.refl _ _).grown hg3_9 (Below.ext hBd3 hx37 hBd3.size).size (fun k hk => by cases hk; exact hgB7)
        have hB3_9 : Below w.heap.size w w3_9 := (Below.trans (Below.ext hBd3 hx37 hBd3.size) hb3_9)
        replace hk3_9 : Blk w3_9 g7 ty_api_Public ([b, (timesP b x), (timesP b y), (baseP z), (knowC b (timesP b x) (d.getD 0 0)), (answerS (knowC b (timesP b x) (d.getD 0 0)) x (d.getD 0 0)), (knowC b (timesP b y) (d.getD 1 0)), (answerS (knowC b (timesP b y) (d.getD 1 0)) y (d.getD 1 0)), 0, 0].map u64v) := hk3_9
        have hSd9 : (fun w' => Blk w' g4 ty_api_Secrets [u64v x, u64v y, u64v z] ∧ PreAt u64v w' g7 ty_api_Public [b, (timesP b x), (timesP b y), (baseP z)]) w3_9 := ⟨((((((((((hk4.ext hx6).ext (Ext.drew w6)).ext hx7).far hg1_14 hne_g4_7).ext (Ext.drew w1_14)).ext hx28).far hg2_9 hne_g4_7).ext (Ext.drew w2_9)).ext hx37).far hg3_9 hne_g4_7), ⟨_, hk3_9, rfl⟩⟩
        refine G_nil ⟨hSd9, ?_⟩
        refine A_done ?_
        refine C_seq ?_
        have hSd : (fun w' => Blk w' g4 ty_api_Secrets [u64v x, u64v y, u64v z] ∧ PreAt u64v w' g7 ty_api_Public [b, (timesP b x), (timesP b y), (baseP z)]) w3_9.drew := ⟨(((((((((((hk4.ext hx6).ext (Ext.drew w6)).ext hx7).far hg1_14 hne_g4_7).ext (Ext.drew w1_14)).ext hx28).far hg2_9 hne_g4_7).ext (Ext.drew w2_9)).ext hx37).far hg3_9 hne_g4_7).ext (Ext.drew w3_9)), ⟨_, (hk3_9.ext (Ext.drew w3_9)), rfl⟩⟩
        refine C_draw (S := fun w' => Blk w' g4 ty_api_Secrets [u64v x, u64v y, u64v z] ∧ PreAt u64v w' g7 ty_api_Public [b, (timesP b x), (timesP b y), (baseP z)]) rfl rfl ?_
        have hBd4 : Below w.heap.size w w3_9.drew := (Below.ext hB3_9 (Ext.drew w3_9) hB3_9.size)
        refine A_take 0 rfl (y_fieldB rfl u_api_Public rfl i_uint64) hSd (fun _ _ _ h => h) ?_
        refine A_take 1 rfl (y_load rfl (fun _ e => (e.2.el (j := 3) rfl rfl)) u_uint64) hSd (fun _ _ _ h => h) ?_
        refine A_take 2 rfl (y_fieldB rfl u_api_Secrets rfl i_uint64) hSd (fun _ _ _ h => h) ?_
        refine A_take 3 rfl (y_load rfl (fun _ e => (e.1.at_ 2)) u_uint64) hSd (fun _ _ _ h => h) ?_
        refine A_take 4 rfl (y_move rfl) hSd (fun _ _ _ h => h) ?_
        refine A_act 5 rfl ?_
        refine s_call rfl cl_keys_draw (keys_draw_ok (hv.keep fun k hk _ => hBd4.block k hk) 2 (by decide)) ?_
        rintro _ _ ⟨rfl, rfl⟩
        refine ⟨_, rfl, ?_⟩
        have hSd5 : (fun w' => Blk w' g4 ty_api_Secrets [u64v x, u64v y, u64v z] ∧ PreAt u64v w' g7 ty_api_Public [b, (timesP b x), (timesP b y), (baseP z)]) w3_9.drew := ⟨(((((((((((hk4.ext hx6).ext (Ext.drew w6)).ext hx7).far hg1_14 hne_g4_7).ext (Ext.drew w1_14)).ext hx28).far hg2_9 hne_g4_7).ext (Ext.drew w2_9)).ext hx37).far hg3_9 hne_g4_7).ext (Ext.drew w3_9)), ⟨_, (hk3_9.ext (Ext.drew w3_9)), rfl⟩⟩
        refine G_nil ⟨hSd5, ?_⟩
        refine A_act 6 rfl ?_
        refine s_call rfl cl_proof_Know (proof_Know_ok 37 _ _ _) ?_
        rintro _ w45 ⟨rfl, hx45⟩
        refine ⟨_, rfl, ?_⟩
        have hSd6 : (fun w' => Blk w' g4 ty_api_Secrets [u64v x, u64v y, u64v z] ∧ PreAt u64v w' g7 ty_api_Public [b, (timesP b x), (timesP b y), (baseP z)]) w45 := ⟨((((((((((((hk4.ext hx6).ext (Ext.drew w6)).ext hx7).far hg1_14 hne_g4_7).ext (Ext.drew w1_14)).ext hx28).far hg2_9 hne_g4_7).ext (Ext.drew w2_9)).ext hx37).far hg3_9 hne_g4_7).ext (Ext.drew w3_9)).ext hx45), ⟨_, (hk3_9.ext ((Ext.drew w3_9).trans hx45)), rfl⟩⟩
        refine G_nil ⟨hSd6, ?_⟩
        refine A_take 7 rfl (y_fieldB rfl u_api_Public rfl i_api_Proof) hSd6 (fun _ _ _ h => h) ?_
        refine A_act 8 rfl ?_
        refine s_store rfl rfl (hk3_9.ext ((Ext.drew w3_9).trans hx45)) i_api_Proof rfl (Nat.le_of_ble_eq_true rfl) rfl ?_
        intro w4_8 hg4_8 hk4_8
        have hb4_8 : Below w.heap.size w45 w4_8 := (Below.refl _ _).grown hg4_8 (Below.ext hBd4 hx45 hBd4.size).size (fun k hk => by cases hk; exact hgB7)
        have hB4_8 : Below w.heap.size w w4_8 := (Below.trans (Below.ext hBd4 hx45 hBd4.size) hb4_8)
        replace hk4_8 : Blk w4_8 g7 ty_api_Public ([b, (timesP b x), (timesP b y), (baseP z), (knowC b (timesP b x) (d.getD 0 0)), (answerS (knowC b (timesP b x) (d.getD 0 0)) x (d.getD 0 0)), (knowC b (timesP b y) (d.getD 1 0)), (answerS (knowC b (timesP b y) (d.getD 1 0)) y (d.getD 1 0)), (knowC 37 (baseP z) (d.getD 2 0)), (answerS (knowC 37 (baseP z) (d.getD 2 0)) z (d.getD 2 0))].map u64v) := hk4_8
        have hSd8 : (fun w' => Blk w' g4 ty_api_Secrets [u64v x, u64v y, u64v z] ∧ PreAt u64v w' g7 ty_api_Public [b, (timesP b x), (timesP b y), (baseP z)]) w4_8 := ⟨(((((((((((((hk4.ext hx6).ext (Ext.drew w6)).ext hx7).far hg1_14 hne_g4_7).ext (Ext.drew w1_14)).ext hx28).far hg2_9 hne_g4_7).ext (Ext.drew w2_9)).ext hx37).far hg3_9 hne_g4_7).ext (Ext.drew w3_9)).ext hx45).far hg4_8 hne_g4_7), ⟨_, hk4_8, rfl⟩⟩
        refine G_nil ⟨hSd8, ?_⟩
        refine A_done ?_
        refine C_seq ?_
        refine C_region ?_
        refine s_v (y_loadA rfl (fun _ e => e ▸ (hk4_8.at_ _)) u_api_Public i_api_Public rfl) ?_
        refine s_store rfl rfl ((((((((((((hk6.ext (Ext.drew w6)).ext hx7).far hg1_14 hne_g6_7).ext (Ext.drew w1_14)).ext hx28).far hg2_9 hne_g6_7).ext (Ext.drew w2_9)).ext hx37).far hg3_9 hne_g6_7).ext (Ext.drew w3_9)).ext hx45).far hg4_8 hne_g6_7) i_api_Public rfl (Nat.le_of_ble_eq_true rfl) rfl ?_
        intro w5_1 hg5_1 hk5_1
        have hb5_1 : Below w.heap.size w4_8 w5_1 := (Below.refl _ _).grown hg5_1 hB4_8.size (fun k hk => by cases hk; exact hgB6)
        replace hk5_1 : Blk w5_1 g6 ty_api_Public ((tellS b x y z d).map u64v) := hk5_1
        refine G_nil ?_
        refine C_ret ?_
        exact ⟨_, (.cell rfl (ldA (hk5_1.at_ _) u_api_Public i_api_Public rfl) .nil), rfl, (Below.trans hB4_8 hb5_1)⟩
    · skip
      refine s_alloc i_api_Public ?_
      intro g7 w7 hgB7 hx7 hk7
      have hne_g4_7 : g4 ≠ g7 := Nat.ne_of_lt (Nat.lt_of_lt_of_le (hk4.ext (hx6.trans (Ext.drew w6))).lt hgB7)
      have hne_g6_7 : g6 ≠ g7 := Nat.ne_of_lt (Nat.lt_of_lt_of_le (hk6.ext (Ext.drew w6)).lt hgB7)
      have hgb7 := hgB7
      replace hgB7 := Nat.le_trans hBd1.size hgB7
      have hSd13 : (fun w' => Blk w' g4 ty_api_Secrets [u64v x, u64v y, u64v z]) w7 := (hk4.ext ((hx6.trans (Ext.drew w6)).trans hx7))
      refine G_nil ⟨hSd13, ?_⟩
      refine A_act 8 rfl ?_
      refine s_call rfl cl_group_Times (group_Times_ok _ _) ?_
      rintro _ _ ⟨rfl, rfl⟩
      refine ⟨_, rfl, ?_⟩
      have hSd8 : (fun w' => Blk w' g4 ty_api_Secrets [u64v x, u64v y, u64v z]) w7 := (hk4.ext ((hx6.trans (Ext.drew w6)).trans hx7))
      refine G_nil ⟨hSd8, ?_⟩
      refine A_act 11 rfl ?_
      refine s_call rfl cl_group_Base (group_Base_ok _) ?_
      rintro _ _ ⟨rfl, rfl⟩
      refine ⟨_, rfl, ?_⟩
      have hSd11 : (fun w' => Blk w' g4 ty_api_Secrets [u64v x, u64v y, u64v z]) w7 := (hk4.ext ((hx6.trans (Ext.drew w6)).trans hx7))
      refine G_nil ⟨hSd11, ?_⟩
      refine A_take 12 rfl (y_build rfl u_api_Public i_api_Public pl_api_Public rfl) hSd11 (fun _ _ _ h => h) ?_
      refine A_act 14 rfl ?_
      refine s_store rfl rfl hk7 i_api_Public rfl (Nat.le_of_ble_eq_true rfl) rfl ?_
      intro w1_14 hg1_14 hk1_14
      have hb1_14 : Below w.heap.size w7 w1_14 := (Below.refl _ _).grown hg1_14 (Below.ext hBd1 hx7 hBd1.size).size (fun k hk => by cases hk; exact hgB7)
      have hB1_14 : Below w.heap.size w w1_14 := (Below.trans (Below.ext hBd1 hx7 hBd1.size) hb1_14)
      replace hk1_14 : Blk w1_14 g7 ty_api_Public ([b, (timesP b x), (timesP b y), (baseP z), 0, 0, 0, 0, 0, 0].map u64v) := hk1_14
      have hSd14 : (fun w' => Blk w' g4 ty_api_Secrets [u64v x, u64v y, u64v z]) w1_14 := ((((hk4.ext hx6).ext (Ext.drew w6)).ext hx7).far hg1_14 hne_g4_7)
      refine G_nil ⟨hSd14, ?_⟩
      refine A_done ?_
      refine C_seq ?_
      have hSd : (fun w' => Blk w' g4 ty_api_Secrets [u64v x, u64v y, u64v z] ∧ PreAt u64v w' g7 ty_api_Public [b, (timesP b x), (timesP b y), (baseP z)]) w1_14.drew := ⟨(((((hk4.ext hx6).ext (Ext.drew w6)).ext hx7).far hg1_14 hne_g4_7).ext (Ext.drew w1_14)), ⟨_, (hk1_14.ext (Ext.drew w1_14)), rfl⟩⟩
      refine C_draw (S := fun w' => Blk w' g4 ty_api_Secrets [u64v x, u64v y, u64v z] ∧ PreAt u64v w' g7 ty_api_Public [b, (timesP b x), (timesP b y), (baseP z)]) rfl rfl ?_
      have hBd2 : Below w.heap.size w w1_14.drew := (Below.ext hB1_14 (Ext.drew w1_14) hB1_14.size)
      refine A_take 0 rfl (y_move rfl) hSd (fun _ _ _ h => h) ?_
      refine A_take 1 rfl (y_fieldB rfl u_api_Public rfl i_uint64) hSd (fun _ _ _ h => h) ?_
      refine A_take 2 rfl (y_load rfl (fun _ e => (e.2.el (j := 1) rfl rfl)) u_uint64) hSd (fun _ _ _ h => h) ?_
      refine A_take 3 rfl (y_fieldB rfl u_api_Secrets rfl i_uint64) hSd (fun _ _ _ h => h) ?_
      refine A_take 4 rfl (y_load rfl (fun _ e => (e.1.at_ 0)) u_uint64) hSd (fun _ _ _ h => h) ?_
      refine A_take 5 rfl (y_move rfl) hSd (fun _ _ _ h => h) ?_
      refine A_act 6 rfl ?_
      refine s_call rfl cl_keys_draw (keys_draw_ok (hv.keep fun k hk _ => hBd2.block k hk) 0 (by decide)) ?_
      rintro _ _ ⟨rfl, rfl⟩
      refine ⟨_, rfl, ?_⟩
      have hSd6 : (fun w' => Blk w' g4 ty_api_Secrets [u64v x, u64v y, u64v z] ∧ PreAt u64v w' g7 ty_api_Public [b, (timesP b x), (timesP b y), (baseP z)]) w1_14.drew := ⟨(((((hk4.ext hx6).ext (Ext.drew w6)).ext hx7).far hg1_14 hne_g4_7).ext (Ext.drew w1_14)), ⟨_, (hk1_14.ext (Ext.drew w1_14)), rfl⟩⟩
      refine G_nil ⟨hSd6, ?_⟩
      refine A_act 7 rfl ?_
      refine s_call rfl cl_proof_Know (proof_Know_ok _ _ _ _) ?_
      rintro _ w28 ⟨rfl, hx28⟩
      refine ⟨_, rfl, ?_⟩
      have hSd7 : (fun w' => Blk w' g4 ty_api_Secrets [u64v x, u64v y, u64v z] ∧ PreAt u64v w' g7 ty_api_Public [b, (timesP b x), (timesP b y), (baseP z)]) w28 := ⟨((((((hk4.ext hx6).ext (Ext.drew w6)).ext hx7).far hg1_14 hne_g4_7).ext (Ext.drew w1_14)).ext hx28), ⟨_, (hk1_14.ext ((Ext.drew w1_14).trans hx28)), rfl⟩⟩
      refine G_nil ⟨hSd7, ?_⟩
      refine A_take 8 rfl (y_fieldB rfl u_api_Public rfl i_api_Proof) hSd7 (fun _ _ _ h => h) ?_
      refine A_act 9 rfl ?_
      refine s_store rfl rfl (hk1_14.ext ((Ext.drew w1_14).trans hx28)) i_api_Proof rfl (Nat.le_of_ble_eq_true rfl) rfl ?_
      intro w2_9 hg2_9 hk2_9
      have hb2_9 : Below w.heap.size w28 w2_9 := (Below.refl _ _).grown hg2_9 (Below.ext hBd2 hx28 hBd2.size).size (fun k hk => by cases hk; exact hgB7)
      have hB2_9 : Below w.heap.size w w2_9 := (Below.trans (Below.ext hBd2 hx28 hBd2.size) hb2_9)
      replace hk2_9 : Blk w2_9 g7 ty_api_Public ([b, (timesP b x), (timesP b y), (baseP z), (knowC b (timesP b x) (d.getD 0 0)), (answerS (knowC b (timesP b x) (d.getD 0 0)) x (d.getD 0 0)), 0, 0, 0, 0].map u64v) := hk2_9
      have hSd9 : (fun w' => Blk w' g4 ty_api_Secrets [u64v x, u64v y, u64v z] ∧ PreAt u64v w' g7 ty_api_Public [b, (timesP b x), (timesP b y), (baseP z)]) w2_9 := ⟨(((((((hk4.ext hx6).ext (Ext.drew w6)).ext hx7).far hg1_14 hne_g4_7).ext (Ext.drew w1_14)).ext hx28).far hg2_9 hne_g4_7), ⟨_, hk2_9, rfl⟩⟩
      refine G_nil ⟨hSd9, ?_⟩
      refine A_done ?_
      refine C_seq ?_
      have hSd : (fun w' => Blk w' g4 ty_api_Secrets [u64v x, u64v y, u64v z] ∧ PreAt u64v w' g7 ty_api_Public [b, (timesP b x), (timesP b y), (baseP z)]) w2_9.drew := ⟨((((((((hk4.ext hx6).ext (Ext.drew w6)).ext hx7).far hg1_14 hne_g4_7).ext (Ext.drew w1_14)).ext hx28).far hg2_9 hne_g4_7).ext (Ext.drew w2_9)), ⟨_, (hk2_9.ext (Ext.drew w2_9)), rfl⟩⟩
      refine C_draw (S := fun w' => Blk w' g4 ty_api_Secrets [u64v x, u64v y, u64v z] ∧ PreAt u64v w' g7 ty_api_Public [b, (timesP b x), (timesP b y), (baseP z)]) rfl rfl ?_
      have hBd3 : Below w.heap.size w w2_9.drew := (Below.ext hB2_9 (Ext.drew w2_9) hB2_9.size)
      refine A_take 0 rfl (y_move rfl) hSd (fun _ _ _ h => h) ?_
      refine A_take 1 rfl (y_fieldB rfl u_api_Public rfl i_uint64) hSd (fun _ _ _ h => h) ?_
      refine A_take 2 rfl (y_load rfl (fun _ e => (e.2.el (j := 2) rfl rfl)) u_uint64) hSd (fun _ _ _ h => h) ?_
      refine A_take 3 rfl (y_fieldB rfl u_api_Secrets rfl i_uint64) hSd (fun _ _ _ h => h) ?_
      refine A_take 4 rfl (y_load rfl (fun _ e => (e.1.at_ 1)) u_uint64) hSd (fun _ _ _ h => h) ?_
      refine A_take 5 rfl (y_move rfl) hSd (fun _ _ _ h => h) ?_
      refine A_act 6 rfl ?_
      refine s_call rfl cl_keys_draw (keys_draw_ok (hv.keep fun k hk _ => hBd3.block k hk) 1 (by decide)) ?_
      rintro _ _ ⟨rfl, rfl⟩
      refine ⟨_, rfl, ?_⟩
      have hSd6 : (fun w' => Blk w' g4 ty_api_Secrets [u64v x, u64v y, u64v z] ∧ PreAt u64v w' g7 ty_api_Public [b, (timesP b x), (timesP b y), (baseP z)]) w2_9.drew := ⟨((((((((hk4.ext hx6).ext (Ext.drew w6)).ext hx7).far hg1_14 hne_g4_7).ext (Ext.drew w1_14)).ext hx28).far hg2_9 hne_g4_7).ext (Ext.drew w2_9)), ⟨_, (hk2_9.ext (Ext.drew w2_9)), rfl⟩⟩
      refine G_nil ⟨hSd6, ?_⟩
      refine A_act 7 rfl ?_
      refine s_call rfl cl_proof_Know (proof_Know_ok _ _ _ _) ?_
      rintro _ w37 ⟨rfl, hx37⟩
      refine ⟨_, rfl, ?_⟩
      have hSd7 : (fun w' => Blk w' g4 ty_api_Secrets [u64v x, u64v y, u64v z] ∧ PreAt u64v w' g7 ty_api_Public [b, (timesP b x), (timesP b y), (baseP z)]) w37 := ⟨(((((((((hk4.ext hx6).ext (Ext.drew w6)).ext hx7).far hg1_14 hne_g4_7).ext (Ext.drew w1_14)).ext hx28).far hg2_9 hne_g4_7).ext (Ext.drew w2_9)).ext hx37), ⟨_, (hk2_9.ext ((Ext.drew w2_9).trans hx37)), rfl⟩⟩
      refine G_nil ⟨hSd7, ?_⟩
      refine A_take 8 rfl (y_fieldB rfl u_api_Public rfl i_api_Proof) hSd7 (fun _ _ _ h => h) ?_
      refine A_act 9 rfl ?_
      refine s_store rfl rfl (hk2_9.ext ((Ext.drew w2_9).trans hx37)) i_api_Proof rfl (Nat.le_of_ble_eq_true rfl) rfl ?_
      intro w3_9 hg3_9 hk3_9
      have hb3_9 : Below w.heap.size w37 w3_9 := (Below.refl _ _).grown hg3_9 (Below.ext hBd3 hx37 hBd3.size).size (fun k hk => by cases hk; exact hgB7)
      have hB3_9 : Below w.heap.size w w3_9 := (Below.trans (Below.ext hBd3 hx37 hBd3.size) hb3_9)
      replace hk3_9 : Blk w3_9 g7 ty_api_Public ([b, (timesP b x), (timesP b y), (baseP z), (knowC b (timesP b x) (d.getD 0 0)), (answerS (knowC b (timesP b x) (d.getD 0 0)) x (d.getD 0 0)), (knowC b (timesP b y) (d.getD 1 0)), (answerS (knowC b (timesP b y) (d.getD 1 0)) y (d.getD 1 0)), 0, 0].map u64v) := hk3_9
      have hSd9 : (fun w' => Blk w' g4 ty_api_Secrets [u64v x, u64v y, u64v z] ∧ PreAt u64v w' g7 ty_api_Public [b, (timesP b x), (timesP b y), (baseP z)]) w3_9 := ⟨((((((((((hk4.ext hx6).ext (Ext.drew w6)).ext hx7).far hg1_14 hne_g4_7).ext (Ext.drew w1_14)).ext hx28).far hg2_9 hne_g4_7).ext (Ext.drew w2_9)).ext hx37).far hg3_9 hne_g4_7), ⟨_, hk3_9, rfl⟩⟩
      refine G_nil ⟨hSd9, ?_⟩
      refine A_done ?_
      refine C_seq ?_
      have hSd : (fun w' => Blk w' g4 ty_api_Secrets [u64v x, u64v y, u64v z] ∧ PreAt u64v w' g7 ty_api_Public [b, (timesP b x), (timesP b y), (baseP z)]) w3_9.drew := ⟨(((((((((((hk4.ext hx6).ext (Ext.drew w6)).ext hx7).far hg1_14 hne_g4_7).ext (Ext.drew w1_14)).ext hx28).far hg2_9 hne_g4_7).ext (Ext.drew w2_9)).ext hx37).far hg3_9 hne_g4_7).ext (Ext.drew w3_9)), ⟨_, (hk3_9.ext (Ext.drew w3_9)), rfl⟩⟩
      refine C_draw (S := fun w' => Blk w' g4 ty_api_Secrets [u64v x, u64v y, u64v z] ∧ PreAt u64v w' g7 ty_api_Public [b, (timesP b x), (timesP b y), (baseP z)]) rfl rfl ?_
      have hBd4 : Below w.heap.size w w3_9.drew := (Below.ext hB3_9 (Ext.drew w3_9) hB3_9.size)
      refine A_take 0 rfl (y_fieldB rfl u_api_Public rfl i_uint64) hSd (fun _ _ _ h => h) ?_
      refine A_take 1 rfl (y_load rfl (fun _ e => (e.2.el (j := 3) rfl rfl)) u_uint64) hSd (fun _ _ _ h => h) ?_
      refine A_take 2 rfl (y_fieldB rfl u_api_Secrets rfl i_uint64) hSd (fun _ _ _ h => h) ?_
      refine A_take 3 rfl (y_load rfl (fun _ e => (e.1.at_ 2)) u_uint64) hSd (fun _ _ _ h => h) ?_
      refine A_take 4 rfl (y_move rfl) hSd (fun _ _ _ h => h) ?_
      refine A_act 5 rfl ?_
      refine s_call rfl cl_keys_draw (keys_draw_ok (hv.keep fun k hk _ => hBd4.block k hk) 2 (by decide)) ?_
      rintro _ _ ⟨rfl, rfl⟩
      refine ⟨_, rfl, ?_⟩
      have hSd5 : (fun w' => Blk w' g4 ty_api_Secrets [u64v x, u64v y, u64v z] ∧ PreAt u64v w' g7 ty_api_Public [b, (timesP b x), (timesP b y), (baseP z)]) w3_9.drew := ⟨(((((((((((hk4.ext hx6).ext (Ext.drew w6)).ext hx7).far hg1_14 hne_g4_7).ext (Ext.drew w1_14)).ext hx28).far hg2_9 hne_g4_7).ext (Ext.drew w2_9)).ext hx37).far hg3_9 hne_g4_7).ext (Ext.drew w3_9)), ⟨_, (hk3_9.ext (Ext.drew w3_9)), rfl⟩⟩
      refine G_nil ⟨hSd5, ?_⟩
      refine A_act 6 rfl ?_
      refine s_call rfl cl_proof_Know (proof_Know_ok 37 _ _ _) ?_
      rintro _ w45 ⟨rfl, hx45⟩
      refine ⟨_, rfl, ?_⟩
      have hSd6 : (fun w' => Blk w' g4 ty_api_Secrets [u64v x, u64v y, u64v z] ∧ PreAt u64v w' g7 ty_api_Public [b, (timesP b x), (timesP b y), (baseP z)]) w45 := ⟨((((((((((((hk4.ext hx6).ext (Ext.drew w6)).ext hx7).far hg1_14 hne_g4_7).ext (Ext.drew w1_14)).ext hx28).far hg2_9 hne_g4_7).ext (Ext.drew w2_9)).ext hx37).far hg3_9 hne_g4_7).ext (Ext.drew w3_9)).ext hx45), ⟨_, (hk3_9.ext ((Ext.drew w3_9).trans hx45)), rfl⟩⟩
      refine G_nil ⟨hSd6, ?_⟩
      refine A_take 7 rfl (y_fieldB rfl u_api_Public rfl i_api_Proof) hSd6 (fun _ _ _ h => h) ?_
      refine A_act 8 rfl ?_
      refine s_store rfl rfl (hk3_9.ext ((Ext.drew w3_9).trans hx45)) i_api_Proof rfl (Nat.le_of_ble_eq_true rfl) rfl ?_
      intro w4_8 hg4_8 hk4_8
      have hb4_8 : Below w.heap.size w45 w4_8 := (Below.refl _ _).grown hg4_8 (Below.ext hBd4 hx45 hBd4.size).size (fun k hk => by cases hk; exact hgB7)
      have hB4_8 : Below w.heap.size w w4_8 := (Below.trans (Below.ext hBd4 hx45 hBd4.size) hb4_8)
      replace hk4_8 : Blk w4_8 g7 ty_api_Public ([b, (timesP b x), (timesP b y), (baseP z), (knowC b (timesP b x) (d.getD 0 0)), (answerS (knowC b (timesP b x) (d.getD 0 0)) x (d.getD 0 0)), (knowC b (timesP b y) (d.getD 1 0)), (answerS (knowC b (timesP b y) (d.getD 1 0)) y (d.getD 1 0)), (knowC 37 (baseP z) (d.getD 2 0)), (answerS (knowC 37 (baseP z) (d.getD 2 0)) z (d.getD 2 0))].map u64v) := hk4_8
      have hSd8 : (fun w' => Blk w' g4 ty_api_Secrets [u64v x, u64v y, u64v z] ∧ PreAt u64v w' g7 ty_api_Public [b, (timesP b x), (timesP b y), (baseP z)]) w4_8 := ⟨(((((((((((((hk4.ext hx6).ext (Ext.drew w6)).ext hx7).far hg1_14 hne_g4_7).ext (Ext.drew w1_14)).ext hx28).far hg2_9 hne_g4_7).ext (Ext.drew w2_9)).ext hx37).far hg3_9 hne_g4_7).ext (Ext.drew w3_9)).ext hx45).far hg4_8 hne_g4_7), ⟨_, hk4_8, rfl⟩⟩
      refine G_nil ⟨hSd8, ?_⟩
      refine A_done ?_
      refine C_seq ?_
      refine C_region ?_
      refine s_v (y_loadA rfl (fun _ e => e ▸ (hk4_8.at_ _)) u_api_Public i_api_Public rfl) ?_
      refine s_store rfl rfl ((((((((((((hk6.ext (Ext.drew w6)).ext hx7).far hg1_14 hne_g6_7).ext (Ext.drew w1_14)).ext hx28).far hg2_9 hne_g6_7).ext (Ext.drew w2_9)).ext hx37).far hg3_9 hne_g6_7).ext (Ext.drew w3_9)).ext hx45).far hg4_8 hne_g6_7) i_api_Public rfl (Nat.le_of_ble_eq_true rfl) rfl ?_
      intro w5_1 hg5_1 hk5_1
      have hb5_1 : Below w.heap.size w4_8 w5_1 := (Below.refl _ _).grown hg5_1 hB4_8.size (fun k hk => by cases hk; exact hgB6)
      replace hk5_1 : Blk w5_1 g6 ty_api_Public ((tellS b x y z d).map u64v) := hk5_1
      refine G_nil ?_
      refine C_ret ?_
      exact ⟨_, (.cell rfl (ldA (hk5_1.at_ _) u_api_Public i_api_Public rfl) .nil), rfl, (Below.trans hB4_8 hb5_1)⟩
  · skip
    refine s_alloc i_api_Public ?_
    intro g7 w7 hgB7 hx7 hk7
    have hne_g4_7 : g4 ≠ g7 := Nat.ne_of_lt (Nat.lt_of_lt_of_le (hk4.ext (hx6.trans (Ext.drew w6))).lt hgB7)
    have hne_g6_7 : g6 ≠ g7 := Nat.ne_of_lt (Nat.lt_of_lt_of_le (hk6.ext (Ext.drew w6)).lt hgB7)
    have hgb7 := hgB7
    replace hgB7 := Nat.le_trans hBd1.size hgB7
    have hSd13 : (fun w' => Blk w' g4 ty_api_Secrets [u64v x, u64v y, u64v z]) w7 := (hk4.ext ((hx6.trans (Ext.drew w6)).trans hx7))
    refine G_nil ⟨hSd13, ?_⟩
    refine A_act 4 rfl ?_
    refine s_call rfl cl_group_Times (group_Times_ok _ _) ?_
    rintro _ _ ⟨rfl, rfl⟩
    refine ⟨_, rfl, ?_⟩
    have hSd4 : (fun w' => Blk w' g4 ty_api_Secrets [u64v x, u64v y, u64v z]) w7 := (hk4.ext ((hx6.trans (Ext.drew w6)).trans hx7))
    refine G_nil ⟨hSd4, ?_⟩
    refine A_act 8 rfl ?_
    refine s_call rfl cl_group_Times (group_Times_ok _ _) ?_
    rintro _ _ ⟨rfl, rfl⟩
    refine ⟨_, rfl, ?_⟩
    have hSd8 : (fun w' => Blk w' g4 ty_api_Secrets [u64v x, u64v y, u64v z]) w7 := (hk4.ext ((hx6.trans (Ext.drew w6)).trans hx7))
    refine G_nil ⟨hSd8, ?_⟩
    refine A_act 11 rfl ?_
    refine s_call rfl cl_group_Base (group_Base_ok _) ?_
    rintro _ _ ⟨rfl, rfl⟩
    refine ⟨_, rfl, ?_⟩
    have hSd11 : (fun w' => Blk w' g4 ty_api_Secrets [u64v x, u64v y, u64v z]) w7 := (hk4.ext ((hx6.trans (Ext.drew w6)).trans hx7))
    refine G_nil ⟨hSd11, ?_⟩
    refine A_take 12 rfl (y_build rfl u_api_Public i_api_Public pl_api_Public rfl) hSd11 (fun _ _ _ h => h) ?_
    refine A_act 14 rfl ?_
    refine s_store rfl rfl hk7 i_api_Public rfl (Nat.le_of_ble_eq_true rfl) rfl ?_
    intro w1_14 hg1_14 hk1_14
    have hb1_14 : Below w.heap.size w7 w1_14 := (Below.refl _ _).grown hg1_14 (Below.ext hBd1 hx7 hBd1.size).size (fun k hk => by cases hk; exact hgB7)
    have hB1_14 : Below w.heap.size w w1_14 := (Below.trans (Below.ext hBd1 hx7 hBd1.size) hb1_14)
    replace hk1_14 : Blk w1_14 g7 ty_api_Public ([b, (timesP b x), (timesP b y), (baseP z), 0, 0, 0, 0, 0, 0].map u64v) := hk1_14
    have hSd14 : (fun w' => Blk w' g4 ty_api_Secrets [u64v x, u64v y, u64v z]) w1_14 := ((((hk4.ext hx6).ext (Ext.drew w6)).ext hx7).far hg1_14 hne_g4_7)
    refine G_nil ⟨hSd14, ?_⟩
    refine A_done ?_
    refine C_seq ?_
    have hSd : (fun w' => Blk w' g4 ty_api_Secrets [u64v x, u64v y, u64v z] ∧ PreAt u64v w' g7 ty_api_Public [b, (timesP b x), (timesP b y), (baseP z)]) w1_14.drew := ⟨(((((hk4.ext hx6).ext (Ext.drew w6)).ext hx7).far hg1_14 hne_g4_7).ext (Ext.drew w1_14)), ⟨_, (hk1_14.ext (Ext.drew w1_14)), rfl⟩⟩
    refine C_draw (S := fun w' => Blk w' g4 ty_api_Secrets [u64v x, u64v y, u64v z] ∧ PreAt u64v w' g7 ty_api_Public [b, (timesP b x), (timesP b y), (baseP z)]) rfl rfl ?_
    have hBd2 : Below w.heap.size w w1_14.drew := (Below.ext hB1_14 (Ext.drew w1_14) hB1_14.size)
    refine A_take 0 rfl (y_move rfl) hSd (fun _ _ _ h => h) ?_
    refine A_take 1 rfl (y_fieldB rfl u_api_Public rfl i_uint64) hSd (fun _ _ _ h => h) ?_
    refine A_take 2 rfl (y_load rfl (fun _ e => (e.2.el (j := 1) rfl rfl)) u_uint64) hSd (fun _ _ _ h => h) ?_
    refine A_take 3 rfl (y_fieldB rfl u_api_Secrets rfl i_uint64) hSd (fun _ _ _ h => h) ?_
    refine A_take 4 rfl (y_load rfl (fun _ e => (e.1.at_ 0)) u_uint64) hSd (fun _ _ _ h => h) ?_
    refine A_take 5 rfl (y_move rfl) hSd (fun _ _ _ h => h) ?_
    refine A_act 6 rfl ?_
    refine s_call rfl cl_keys_draw (keys_draw_ok (hv.keep fun k hk _ => hBd2.block k hk) 0 (by decide)) ?_
    rintro _ _ ⟨rfl, rfl⟩
    refine ⟨_, rfl, ?_⟩
    have hSd6 : (fun w' => Blk w' g4 ty_api_Secrets [u64v x, u64v y, u64v z] ∧ PreAt u64v w' g7 ty_api_Public [b, (timesP b x), (timesP b y), (baseP z)]) w1_14.drew := ⟨(((((hk4.ext hx6).ext (Ext.drew w6)).ext hx7).far hg1_14 hne_g4_7).ext (Ext.drew w1_14)), ⟨_, (hk1_14.ext (Ext.drew w1_14)), rfl⟩⟩
    refine G_nil ⟨hSd6, ?_⟩
    refine A_act 7 rfl ?_
    refine s_call rfl cl_proof_Know (proof_Know_ok _ _ _ _) ?_
    rintro _ w28 ⟨rfl, hx28⟩
    refine ⟨_, rfl, ?_⟩
    have hSd7 : (fun w' => Blk w' g4 ty_api_Secrets [u64v x, u64v y, u64v z] ∧ PreAt u64v w' g7 ty_api_Public [b, (timesP b x), (timesP b y), (baseP z)]) w28 := ⟨((((((hk4.ext hx6).ext (Ext.drew w6)).ext hx7).far hg1_14 hne_g4_7).ext (Ext.drew w1_14)).ext hx28), ⟨_, (hk1_14.ext ((Ext.drew w1_14).trans hx28)), rfl⟩⟩
    refine G_nil ⟨hSd7, ?_⟩
    refine A_take 8 rfl (y_fieldB rfl u_api_Public rfl i_api_Proof) hSd7 (fun _ _ _ h => h) ?_
    refine A_act 9 rfl ?_
    refine s_store rfl rfl (hk1_14.ext ((Ext.drew w1_14).trans hx28)) i_api_Proof rfl (Nat.le_of_ble_eq_true rfl) rfl ?_
    intro w2_9 hg2_9 hk2_9
    have hb2_9 : Below w.heap.size w28 w2_9 := (Below.refl _ _).grown hg2_9 (Below.ext hBd2 hx28 hBd2.size).size (fun k hk => by cases hk; exact hgB7)
    have hB2_9 : Below w.heap.size w w2_9 := (Below.trans (Below.ext hBd2 hx28 hBd2.size) hb2_9)
    replace hk2_9 : Blk w2_9 g7 ty_api_Public ([b, (timesP b x), (timesP b y), (baseP z), (knowC b (timesP b x) (d.getD 0 0)), (answerS (knowC b (timesP b x) (d.getD 0 0)) x (d.getD 0 0)), 0, 0, 0, 0].map u64v) := hk2_9
    have hSd9 : (fun w' => Blk w' g4 ty_api_Secrets [u64v x, u64v y, u64v z] ∧ PreAt u64v w' g7 ty_api_Public [b, (timesP b x), (timesP b y), (baseP z)]) w2_9 := ⟨(((((((hk4.ext hx6).ext (Ext.drew w6)).ext hx7).far hg1_14 hne_g4_7).ext (Ext.drew w1_14)).ext hx28).far hg2_9 hne_g4_7), ⟨_, hk2_9, rfl⟩⟩
    refine G_nil ⟨hSd9, ?_⟩
    refine A_done ?_
    refine C_seq ?_
    have hSd : (fun w' => Blk w' g4 ty_api_Secrets [u64v x, u64v y, u64v z] ∧ PreAt u64v w' g7 ty_api_Public [b, (timesP b x), (timesP b y), (baseP z)]) w2_9.drew := ⟨((((((((hk4.ext hx6).ext (Ext.drew w6)).ext hx7).far hg1_14 hne_g4_7).ext (Ext.drew w1_14)).ext hx28).far hg2_9 hne_g4_7).ext (Ext.drew w2_9)), ⟨_, (hk2_9.ext (Ext.drew w2_9)), rfl⟩⟩
    refine C_draw (S := fun w' => Blk w' g4 ty_api_Secrets [u64v x, u64v y, u64v z] ∧ PreAt u64v w' g7 ty_api_Public [b, (timesP b x), (timesP b y), (baseP z)]) rfl rfl ?_
    have hBd3 : Below w.heap.size w w2_9.drew := (Below.ext hB2_9 (Ext.drew w2_9) hB2_9.size)
    refine A_take 0 rfl (y_move rfl) hSd (fun _ _ _ h => h) ?_
    refine A_take 1 rfl (y_fieldB rfl u_api_Public rfl i_uint64) hSd (fun _ _ _ h => h) ?_
    refine A_take 2 rfl (y_load rfl (fun _ e => (e.2.el (j := 2) rfl rfl)) u_uint64) hSd (fun _ _ _ h => h) ?_
    refine A_take 3 rfl (y_fieldB rfl u_api_Secrets rfl i_uint64) hSd (fun _ _ _ h => h) ?_
    refine A_take 4 rfl (y_load rfl (fun _ e => (e.1.at_ 1)) u_uint64) hSd (fun _ _ _ h => h) ?_
    refine A_take 5 rfl (y_move rfl) hSd (fun _ _ _ h => h) ?_
    refine A_act 6 rfl ?_
    refine s_call rfl cl_keys_draw (keys_draw_ok (hv.keep fun k hk _ => hBd3.block k hk) 1 (by decide)) ?_
    rintro _ _ ⟨rfl, rfl⟩
    refine ⟨_, rfl, ?_⟩
    have hSd6 : (fun w' => Blk w' g4 ty_api_Secrets [u64v x, u64v y, u64v z] ∧ PreAt u64v w' g7 ty_api_Public [b, (timesP b x), (timesP b y), (baseP z)]) w2_9.drew := ⟨((((((((hk4.ext hx6).ext (Ext.drew w6)).ext hx7).far hg1_14 hne_g4_7).ext (Ext.drew w1_14)).ext hx28).far hg2_9 hne_g4_7).ext (Ext.drew w2_9)), ⟨_, (hk2_9.ext (Ext.drew w2_9)), rfl⟩⟩
    refine G_nil ⟨hSd6, ?_⟩
    refine A_act 7 rfl ?_
    refine s_call rfl cl_proof_Know (proof_Know_ok _ _ _ _) ?_
    rintro _ w37 ⟨rfl, hx37⟩
    refine ⟨_, rfl, ?_⟩
    have hSd7 : (fun w' => Blk w' g4 ty_api_Secrets [u64v x, u64v y, u64v z] ∧ PreAt u64v w' g7 ty_api_Public [b, (timesP b x), (timesP b y), (baseP z)]) w37 := ⟨(((((((((hk4.ext hx6).ext (Ext.drew w6)).ext hx7).far hg1_14 hne_g4_7).ext (Ext.drew w1_14)).ext hx28).far hg2_9 hne_g4_7).ext (Ext.drew w2_9)).ext hx37), ⟨_, (hk2_9.ext ((Ext.drew w2_9).trans hx37)), rfl⟩⟩
    refine G_nil ⟨hSd7, ?_⟩
    refine A_take 8 rfl (y_fieldB rfl u_api_Public rfl i_api_Proof) hSd7 (fun _ _ _ h => h) ?_
    refine A_act 9 rfl ?_
    refine s_store rfl rfl (hk2_9.ext ((Ext.drew w2_9).trans hx37)) i_api_Proof rfl (Nat.le_of_ble_eq_true rfl) rfl ?_
    intro w3_9 hg3_9 hk3_9
    have hb3_9 : Below w.heap.size w37 w3_9 := (Below.refl _ _).grown hg3_9 (Below.ext hBd3 hx37 hBd3.size).size (fun k hk => by cases hk; exact hgB7)
    have hB3_9 : Below w.heap.size w w3_9 := (Below.trans (Below.ext hBd3 hx37 hBd3.size) hb3_9)
    replace hk3_9 : Blk w3_9 g7 ty_api_Public ([b, (timesP b x), (timesP b y), (baseP z), (knowC b (timesP b x) (d.getD 0 0)), (answerS (knowC b (timesP b x) (d.getD 0 0)) x (d.getD 0 0)), (knowC b (timesP b y) (d.getD 1 0)), (answerS (knowC b (timesP b y) (d.getD 1 0)) y (d.getD 1 0)), 0, 0].map u64v) := hk3_9
    have hSd9 : (fun w' => Blk w' g4 ty_api_Secrets [u64v x, u64v y, u64v z] ∧ PreAt u64v w' g7 ty_api_Public [b, (timesP b x), (timesP b y), (baseP z)]) w3_9 := ⟨((((((((((hk4.ext hx6).ext (Ext.drew w6)).ext hx7).far hg1_14 hne_g4_7).ext (Ext.drew w1_14)).ext hx28).far hg2_9 hne_g4_7).ext (Ext.drew w2_9)).ext hx37).far hg3_9 hne_g4_7), ⟨_, hk3_9, rfl⟩⟩
    refine G_nil ⟨hSd9, ?_⟩
    refine A_done ?_
    refine C_seq ?_
    have hSd : (fun w' => Blk w' g4 ty_api_Secrets [u64v x, u64v y, u64v z] ∧ PreAt u64v w' g7 ty_api_Public [b, (timesP b x), (timesP b y), (baseP z)]) w3_9.drew := ⟨(((((((((((hk4.ext hx6).ext (Ext.drew w6)).ext hx7).far hg1_14 hne_g4_7).ext (Ext.drew w1_14)).ext hx28).far hg2_9 hne_g4_7).ext (Ext.drew w2_9)).ext hx37).far hg3_9 hne_g4_7).ext (Ext.drew w3_9)), ⟨_, (hk3_9.ext (Ext.drew w3_9)), rfl⟩⟩
    refine C_draw (S := fun w' => Blk w' g4 ty_api_Secrets [u64v x, u64v y, u64v z] ∧ PreAt u64v w' g7 ty_api_Public [b, (timesP b x), (timesP b y), (baseP z)]) rfl rfl ?_
    have hBd4 : Below w.heap.size w w3_9.drew := (Below.ext hB3_9 (Ext.drew w3_9) hB3_9.size)
    refine A_take 0 rfl (y_fieldB rfl u_api_Public rfl i_uint64) hSd (fun _ _ _ h => h) ?_
    refine A_take 1 rfl (y_load rfl (fun _ e => (e.2.el (j := 3) rfl rfl)) u_uint64) hSd (fun _ _ _ h => h) ?_
    refine A_take 2 rfl (y_fieldB rfl u_api_Secrets rfl i_uint64) hSd (fun _ _ _ h => h) ?_
    refine A_take 3 rfl (y_load rfl (fun _ e => (e.1.at_ 2)) u_uint64) hSd (fun _ _ _ h => h) ?_
    refine A_take 4 rfl (y_move rfl) hSd (fun _ _ _ h => h) ?_
    refine A_act 5 rfl ?_
    refine s_call rfl cl_keys_draw (keys_draw_ok (hv.keep fun k hk _ => hBd4.block k hk) 2 (by decide)) ?_
    rintro _ _ ⟨rfl, rfl⟩
    refine ⟨_, rfl, ?_⟩
    have hSd5 : (fun w' => Blk w' g4 ty_api_Secrets [u64v x, u64v y, u64v z] ∧ PreAt u64v w' g7 ty_api_Public [b, (timesP b x), (timesP b y), (baseP z)]) w3_9.drew := ⟨(((((((((((hk4.ext hx6).ext (Ext.drew w6)).ext hx7).far hg1_14 hne_g4_7).ext (Ext.drew w1_14)).ext hx28).far hg2_9 hne_g4_7).ext (Ext.drew w2_9)).ext hx37).far hg3_9 hne_g4_7).ext (Ext.drew w3_9)), ⟨_, (hk3_9.ext (Ext.drew w3_9)), rfl⟩⟩
    refine G_nil ⟨hSd5, ?_⟩
    refine A_act 6 rfl ?_
    refine s_call rfl cl_proof_Know (proof_Know_ok 37 _ _ _) ?_
    rintro _ w45 ⟨rfl, hx45⟩
    refine ⟨_, rfl, ?_⟩
    have hSd6 : (fun w' => Blk w' g4 ty_api_Secrets [u64v x, u64v y, u64v z] ∧ PreAt u64v w' g7 ty_api_Public [b, (timesP b x), (timesP b y), (baseP z)]) w45 := ⟨((((((((((((hk4.ext hx6).ext (Ext.drew w6)).ext hx7).far hg1_14 hne_g4_7).ext (Ext.drew w1_14)).ext hx28).far hg2_9 hne_g4_7).ext (Ext.drew w2_9)).ext hx37).far hg3_9 hne_g4_7).ext (Ext.drew w3_9)).ext hx45), ⟨_, (hk3_9.ext ((Ext.drew w3_9).trans hx45)), rfl⟩⟩
    refine G_nil ⟨hSd6, ?_⟩
    refine A_take 7 rfl (y_fieldB rfl u_api_Public rfl i_api_Proof) hSd6 (fun _ _ _ h => h) ?_
    refine A_act 8 rfl ?_
    refine s_store rfl rfl (hk3_9.ext ((Ext.drew w3_9).trans hx45)) i_api_Proof rfl (Nat.le_of_ble_eq_true rfl) rfl ?_
    intro w4_8 hg4_8 hk4_8
    have hb4_8 : Below w.heap.size w45 w4_8 := (Below.refl _ _).grown hg4_8 (Below.ext hBd4 hx45 hBd4.size).size (fun k hk => by cases hk; exact hgB7)
    have hB4_8 : Below w.heap.size w w4_8 := (Below.trans (Below.ext hBd4 hx45 hBd4.size) hb4_8)
    replace hk4_8 : Blk w4_8 g7 ty_api_Public ([b, (timesP b x), (timesP b y), (baseP z), (knowC b (timesP b x) (d.getD 0 0)), (answerS (knowC b (timesP b x) (d.getD 0 0)) x (d.getD 0 0)), (knowC b (timesP b y) (d.getD 1 0)), (answerS (knowC b (timesP b y) (d.getD 1 0)) y (d.getD 1 0)), (knowC 37 (baseP z) (d.getD 2 0)), (answerS (knowC 37 (baseP z) (d.getD 2 0)) z (d.getD 2 0))].map u64v) := hk4_8
    have hSd8 : (fun w' => Blk w' g4 ty_api_Secrets [u64v x, u64v y, u64v z] ∧ PreAt u64v w' g7 ty_api_Public [b, (timesP b x), (timesP b y), (baseP z)]) w4_8 := ⟨(((((((((((((hk4.ext hx6).ext (Ext.drew w6)).ext hx7).far hg1_14 hne_g4_7).ext (Ext.drew w1_14)).ext hx28).far hg2_9 hne_g4_7).ext (Ext.drew w2_9)).ext hx37).far hg3_9 hne_g4_7).ext (Ext.drew w3_9)).ext hx45).far hg4_8 hne_g4_7), ⟨_, hk4_8, rfl⟩⟩
    refine G_nil ⟨hSd8, ?_⟩
    refine A_done ?_
    refine C_seq ?_
    refine C_region ?_
    refine s_v (y_loadA rfl (fun _ e => e ▸ (hk4_8.at_ _)) u_api_Public i_api_Public rfl) ?_
    refine s_store rfl rfl ((((((((((((hk6.ext (Ext.drew w6)).ext hx7).far hg1_14 hne_g6_7).ext (Ext.drew w1_14)).ext hx28).far hg2_9 hne_g6_7).ext (Ext.drew w2_9)).ext hx37).far hg3_9 hne_g6_7).ext (Ext.drew w3_9)).ext hx45).far hg4_8 hne_g6_7) i_api_Public rfl (Nat.le_of_ble_eq_true rfl) rfl ?_
    intro w5_1 hg5_1 hk5_1
    have hb5_1 : Below w.heap.size w4_8 w5_1 := (Below.refl _ _).grown hg5_1 hB4_8.size (fun k hk => by cases hk; exact hgB6)
    replace hk5_1 : Blk w5_1 g6 ty_api_Public ((tellS b x y z d).map u64v) := hk5_1
    refine G_nil ?_
    refine C_ret ?_
    exact ⟨_, (.cell rfl (ldA (hk5_1.at_ _) u_api_Public i_api_Public rfl) .nil), rfl, (Below.trans hB4_8 hb5_1)⟩

theorem ref12_Tell_ok {F : Nat → Prop} {w : World} {v : Value} (b x y z : UInt64) {d : List UInt64} (hv : Kd.u64.Sl F w v d) :
    Calls Pr N_ref12_Tell #[u64v b, .agg #[u64v x, u64v y, u64v z], v] w fun e w' => e = .returned (.agg ((tellS b x y z d).map u64v).toArray) ∧ Ext w w' := by
  refine calls (args := [u64v b, .agg #[u64v x, u64v y, u64v z], v]) fn_ref12_Tell rfl rfl rfl rfl ?_
  refine C_seq ?_
  refine C_region ?_
  refine s_box rfl ?_
  intro g4 w4 hgB4 hx4 hk4
  have hgb4 := hgB4
  refine s_alloc i_api_Public ?_
  intro g6 w6 hgB6 hx6 hk6
  have hne_g4_6 : g4 ≠ g6 := Nat.ne_of_lt (Nat.lt_of_lt_of_le hk4.lt hgB6)
  have hgb6 := hgB6
  replace hgB6 := Nat.le_trans hx4.size hgB6
  refine G_nil ?_
  refine C_seq ?_
  have hSd : (fun w' => Blk w' g4 ty_api_Secrets [u64v x, u64v y, u64v z]) w6.drew := ((hk4.ext hx6).ext (Ext.drew w6))
  refine C_draw (S := fun w' => Blk w' g4 ty_api_Secrets [u64v x, u64v y, u64v z]) rfl rfl ?_
  have hBd1 : Below w.heap.size w w6.drew := (Below.ext (Below.ext hx4 hx6 hx4.size) (Ext.drew w6) (Below.ext hx4 hx6 hx4.size).size)
  refine A_take 0 rfl (y_move rfl) hSd (fun _ _ _ h => h) ?_
  refine A_take 1 rfl (y_move rfl) hSd (fun _ _ _ h => h) ?_
  refine A_take 2 rfl (y_fieldB rfl u_api_Secrets rfl i_uint64) hSd (fun _ _ _ h => h) ?_
  refine A_take 3 rfl (y_load rfl (fun _ e => (e.at_ 0)) u_uint64) hSd (fun _ _ _ h => h) ?_
  refine A_take 5 rfl (y_move rfl) hSd (fun _ _ _ h => h) ?_
  refine A_take 6 rfl (y_fieldB rfl u_api_Secrets rfl i_uint64) hSd (fun _ _ _ h => h) ?_
  refine A_take 7 rfl (y_load rfl (fun _ e => (e.at_ 1)) u_uint64) hSd (fun _ _ _ h => h) ?_
  refine A_take 9 rfl (y_fieldB rfl u_api_Secrets rfl i_uint64) hSd (fun _ _ _ h => h) ?_
  refine A_take 10 rfl (y_load rfl (fun _ e => (e.at_ 2)) u_uint64) hSd (fun _ _ _ h => h) ?_
  refine A_act2 4 13 rfl rfl ?_ ?_
  · skip
    refine s_call rfl cl_ref1_Times (ref1_Times_ok _ _) ?_
    rintro _ _ ⟨rfl, rfl⟩
    refine ⟨_, rfl, ?_⟩
    have hSd4 : (fun w' => Blk w' g4 ty_api_Secrets [u64v x, u64v y, u64v z]) w6.drew := (hk4.ext (hx6.trans (Ext.drew w6)))
    refine G_nil ⟨hSd4, ?_⟩
    refine A_act2 8 13 rfl rfl ?_ ?_
    · skip
      refine s_call rfl cl_ref1_Times (ref1_Times_ok _ _) ?_
      rintro _ _ ⟨rfl, rfl⟩
      refine ⟨_, rfl, ?_⟩
      have hSd8 : (fun w' => Blk w' g4 ty_api_Secrets [u64v x, u64v y, u64v z]) w6.drew := (hk4.ext (hx6.trans (Ext.drew w6)))
      refine G_nil ⟨hSd8, ?_⟩
      refine A_act2 11 13 rfl rfl ?_ ?_
      · skip
        refine s_call rfl cl_ref1_Base (ref1_Base_ok _) ?_
        rintro _ _ ⟨rfl, rfl⟩
        refine ⟨_, rfl, ?_⟩
        have hSd11 : (fun w' => Blk w' g4 ty_api_Secrets [u64v x, u64v y, u64v z]) w6.drew := (hk4.ext (hx6.trans (Ext.drew w6)))
        refine G_nil ⟨hSd11, ?_⟩
        refine A_take 12 rfl (y_build rfl u_api_Public i_api_Public pl_api_Public rfl) hSd11 (fun _ _ _ h => h) ?_
        refine A_act 13 rfl ?_
        refine s_alloc i_api_Public ?_
        intro g7 w7 hgB7 hx7 hk7
        have hne_g4_7 : g4 ≠ g7 := Nat.ne_of_lt (Nat.lt_of_lt_of_le (hk4.ext (hx6.trans (Ext.drew w6))).lt hgB7)
        have hne_g6_7 : g6 ≠ g7 := Nat.ne_of_lt (Nat.lt_of_lt_of_le (hk6.ext (Ext.drew w6)).lt hgB7)
        have hgb7 := hgB7
        replace hgB7 := Nat.le_trans hBd1.size hgB7
        have hSd13 : (fun w' => Blk w' g4 ty_api_Secrets [u64v x, u64v y, u64v z]) w7 := (hk4.ext ((hx6.trans (Ext.drew w6)).trans hx7))
        refine G_nil ⟨hSd13, ?_⟩
        refine A_act 14 rfl ?_
        refine s_store rfl rfl hk7 i_api_Public rfl (Nat.le_of_ble_eq_true rfl) rfl ?_
        intro w1_14 hg1_14 hk1_14
        have hb1_14 : Below w.heap.size w7 w1_14 := (Below.refl _ _).grown hg1_14 (Below.ext hBd1 hx7 hBd1.size).size (fun k hk => by cases hk; exact hgB7)
        have hB1_14 : Below w.heap.size w w1_14 := (Below.trans (Below.ext hBd1 hx7 hBd1.size) hb1_14)
        replace hk1_14 : Blk w1_14 g7 ty_api_Public ([b, (timesP b x), (timesP b y), (baseP z), 0, 0, 0, 0, 0, 0].map u64v) := hk1_14
        have hSd14 : (fun w' => Blk w' g4 ty_api_Secrets [u64v x, u64v y, u64v z]) w1_14 := ((((hk4.ext hx6).ext (Ext.drew w6)).ext hx7).far hg1_14 hne_g4_7)
        refine G_nil ⟨hSd14, ?_⟩
        refine A_done ?_
        refine C_seq ?_
        have hSd : (fun w' => Blk w' g4 ty_api_Secrets [u64v x, u64v y, u64v z] ∧ PreAt u64v w' g7 ty_api_Public [b, (timesP b x), (timesP b y), (baseP z)]) w1_14.drew := ⟨(((((hk4.ext hx6).ext (Ext.drew w6)).ext hx7).far hg1_14 hne_g4_7).ext (Ext.drew w1_14)), ⟨_, (hk1_14.ext (Ext.drew w1_14)), rfl⟩⟩
        refine C_draw (S := fun w' => Blk w' g4 ty_api_Secrets [u64v x, u64v y, u64v z] ∧ PreAt u64v w' g7 ty_api_Public [b, (timesP b x), (timesP b y), (baseP z)]) rfl rfl ?_
        have hBd2 : Below w.heap.size w w1_14.drew := (Below.ext hB1_14 (Ext.drew w1_14) hB1_14.size)
        refine A_take 0 rfl (y_move rfl) hSd (fun _ _ _ h => h) ?_
        refine A_take 1 rfl (y_fieldB rfl u_api_Public rfl i_uint64) hSd (fun _ _ _ h => h) ?_
        refine A_take 2 rfl (y_load rfl (fun _ e => (e.2.el (j := 1) rfl rfl)) u_uint64) hSd (fun _ _ _ h => h) ?_
        refine A_take 3 rfl (y_fieldB rfl u_api_Secrets rfl i_uint64) hSd (fun _ _ _ h => h) ?_
        refine A_take 4 rfl (y_load rfl (fun _ e => (e.1.at_ 0)) u_uint64) hSd (fun _ _ _ h => h) ?_
        refine A_take 5 rfl (y_move rfl) hSd (fun _ _ _ h => h) ?_
        refine A_act 6 rfl ?_
        refine s_call rfl cl_ref12_draw (ref12_draw_ok (hv.keep fun k hk _ => hBd2.block k hk) 0 (by decide)) ?_
        rintro _ _ ⟨rfl, rfl⟩
        refine ⟨_, rfl, ?_⟩
        have hSd6 : (fun w' => Blk w' g4 ty_api_Secrets [u64v x, u64v y, u64v z] ∧ PreAt u64v w' g7 ty_api_Public [b, (timesP b x), (timesP b y), (baseP z)]) w1_14.drew := ⟨(((((hk4.ext hx6).ext (Ext.drew w6)).ext hx7).far hg1_14 hne_g4_7).ext (Ext.drew w1_14)), ⟨_, (hk1_14.ext (Ext.drew w1_14)), rfl⟩⟩
        refine G_nil ⟨hSd6, ?_⟩
        refine A_act 7 rfl ?_
        refine s_call rfl cl_ref1_Know (ref1_Know_ok _ _ _ _) ?_
        rintro _ w28 ⟨rfl, hx28⟩
        refine ⟨_, rfl, ?_⟩
        have hSd7 : (fun w' => Blk w' g4 ty_api_Secrets [u64v x, u64v y, u64v z] ∧ PreAt u64v w' g7 ty_api_Public [b, (timesP b x), (timesP b y), (baseP z)]) w28 := ⟨((((((hk4.ext hx6).ext (Ext.drew w6)).ext hx7).far hg1_14 hne_g4_7).ext (Ext.drew w1_14)).ext hx28), ⟨_, (hk1_14.ext ((Ext.drew w1_14).trans hx28)), rfl⟩⟩
        refine G_nil ⟨hSd7, ?_⟩
        refine A_take 8 rfl (y_fieldB rfl u_api_Public rfl i_api_Proof) hSd7 (fun _ _ _ h => h) ?_
        refine A_act 9 rfl ?_
        refine s_store rfl rfl (hk1_14.ext ((Ext.drew w1_14).trans hx28)) i_api_Proof rfl (Nat.le_of_ble_eq_true rfl) rfl ?_
        intro w2_9 hg2_9 hk2_9
        have hb2_9 : Below w.heap.size w28 w2_9 := (Below.refl _ _).grown hg2_9 (Below.ext hBd2 hx28 hBd2.size).size (fun k hk => by cases hk; exact hgB7)
        have hB2_9 : Below w.heap.size w w2_9 := (Below.trans (Below.ext hBd2 hx28 hBd2.size) hb2_9)
        replace hk2_9 : Blk w2_9 g7 ty_api_Public ([b, (timesP b x), (timesP b y), (baseP z), (knowC b (timesP b x) (d.getD 0 0)), (answerS (knowC b (timesP b x) (d.getD 0 0)) x (d.getD 0 0)), 0, 0, 0, 0].map u64v) := hk2_9
        have hSd9 : (fun w' => Blk w' g4 ty_api_Secrets [u64v x, u64v y, u64v z] ∧ PreAt u64v w' g7 ty_api_Public [b, (timesP b x), (timesP b y), (baseP z)]) w2_9 := ⟨(((((((hk4.ext hx6).ext (Ext.drew w6)).ext hx7).far hg1_14 hne_g4_7).ext (Ext.drew w1_14)).ext hx28).far hg2_9 hne_g4_7), ⟨_, hk2_9, rfl⟩⟩
        refine G_nil ⟨hSd9, ?_⟩
        refine A_done ?_
        refine C_seq ?_
        have hSd : (fun w' => Blk w' g4 ty_api_Secrets [u64v x, u64v y, u64v z] ∧ PreAt u64v w' g7 ty_api_Public [b, (timesP b x), (timesP b y), (baseP z)]) w2_9.drew := ⟨((((((((hk4.ext hx6).ext (Ext.drew w6)).ext hx7).far hg1_14 hne_g4_7).ext (Ext.drew w1_14)).ext hx28).far hg2_9 hne_g4_7).ext (Ext.drew w2_9)), ⟨_, (hk2_9.ext (Ext.drew w2_9)), rfl⟩⟩
        refine C_draw (S := fun w' => Blk w' g4 ty_api_Secrets [u64v x, u64v y, u64v z] ∧ PreAt u64v w' g7 ty_api_Public [b, (timesP b x), (timesP b y), (baseP z)]) rfl rfl ?_
        have hBd3 : Below w.heap.size w w2_9.drew := (Below.ext hB2_9 (Ext.drew w2_9) hB2_9.size)
        refine A_take 0 rfl (y_move rfl) hSd (fun _ _ _ h => h) ?_
        refine A_take 1 rfl (y_fieldB rfl u_api_Public rfl i_uint64) hSd (fun _ _ _ h => h) ?_
        refine A_take 2 rfl (y_load rfl (fun _ e => (e.2.el (j := 2) rfl rfl)) u_uint64) hSd (fun _ _ _ h => h) ?_
        refine A_take 3 rfl (y_fieldB rfl u_api_Secrets rfl i_uint64) hSd (fun _ _ _ h => h) ?_
        refine A_take 4 rfl (y_load rfl (fun _ e => (e.1.at_ 1)) u_uint64) hSd (fun _ _ _ h => h) ?_
        refine A_take 5 rfl (y_move rfl) hSd (fun _ _ _ h => h) ?_
        refine A_act 6 rfl ?_
        refine s_call rfl cl_ref12_draw (ref12_draw_ok (hv.keep fun k hk _ => hBd3.block k hk) 1 (by decide)) ?_
        rintro _ _ ⟨rfl, rfl⟩
        refine ⟨_, rfl, ?_⟩
        have hSd6 : (fun w' => Blk w' g4 ty_api_Secrets [u64v x, u64v y, u64v z] ∧ PreAt u64v w' g7 ty_api_Public [b, (timesP b x), (timesP b y), (baseP z)]) w2_9.drew := ⟨((((((((hk4.ext hx6).ext (Ext.drew w6)).ext hx7).far hg1_14 hne_g4_7).ext (Ext.drew w1_14)).ext hx28).far hg2_9 hne_g4_7).ext (Ext.drew w2_9)), ⟨_, (hk2_9.ext (Ext.drew w2_9)), rfl⟩⟩
        refine G_nil ⟨hSd6, ?_⟩
        refine A_act 7 rfl ?_
        refine s_call rfl cl_ref1_Know (ref1_Know_ok _ _ _ _) ?_
        rintro _ w37 ⟨rfl, hx37⟩
        refine ⟨_, rfl, ?_⟩
        have hSd7 : (fun w' => Blk w' g4 ty_api_Secrets [u64v x, u64v y, u64v z] ∧ PreAt u64v w' g7 ty_api_Public [b, (timesP b x), (timesP b y), (baseP z)]) w37 := ⟨(((((((((hk4.ext hx6).ext (Ext.drew w6)).ext hx7).far hg1_14 hne_g4_7).ext (Ext.drew w1_14)).ext hx28).far hg2_9 hne_g4_7).ext (Ext.drew w2_9)).ext hx37), ⟨_, (hk2_9.ext ((Ext.drew w2_9).trans hx37)), rfl⟩⟩
        refine G_nil ⟨hSd7, ?_⟩
        refine A_take 8 rfl (y_fieldB rfl u_api_Public rfl i_api_Proof) hSd7 (fun _ _ _ h => h) ?_
        refine A_act 9 rfl ?_
        refine s_store rfl rfl (hk2_9.ext ((Ext.drew w2_9).trans hx37)) i_api_Proof rfl (Nat.le_of_ble_eq_true rfl) rfl ?_
        intro w3_9 hg3_9 hk3_9
        have hb3_9 : Below w.heap.size w37 w3_9 := (Below.refl _ _).grown hg3_9 (Below.ext hBd3 hx37 hBd3.size).size (fun k hk => by cases hk; exact hgB7)
        have hB3_9 : Below w.heap.size w w3_9 := (Below.trans (Below.ext hBd3 hx37 hBd3.size) hb3_9)
        replace hk3_9 : Blk w3_9 g7 ty_api_Public ([b, (timesP b x), (timesP b y), (baseP z), (knowC b (timesP b x) (d.getD 0 0)), (answerS (knowC b (timesP b x) (d.getD 0 0)) x (d.getD 0 0)), (knowC b (timesP b y) (d.getD 1 0)), (answerS (knowC b (timesP b y) (d.getD 1 0)) y (d.getD 1 0)), 0, 0].map u64v) := hk3_9
        have hSd9 : (fun w' => Blk w' g4 ty_api_Secrets [u64v x, u64v y, u64v z] ∧ PreAt u64v w' g7 ty_api_Public [b, (timesP b x), (timesP b y), (baseP z)]) w3_9 := ⟨((((((((((hk4.ext hx6).ext (Ext.drew w6)).ext hx7).far hg1_14 hne_g4_7).ext (Ext.drew w1_14)).ext hx28).far hg2_9 hne_g4_7).ext (Ext.drew w2_9)).ext hx37).far hg3_9 hne_g4_7), ⟨_, hk3_9, rfl⟩⟩
        refine G_nil ⟨hSd9, ?_⟩
        refine A_done ?_
        refine C_seq ?_
        have hSd : (fun w' => Blk w' g4 ty_api_Secrets [u64v x, u64v y, u64v z] ∧ PreAt u64v w' g7 ty_api_Public [b, (timesP b x), (timesP b y), (baseP z)]) w3_9.drew := ⟨(((((((((((hk4.ext hx6).ext (Ext.drew w6)).ext hx7).far hg1_14 hne_g4_7).ext (Ext.drew w1_14)).ext hx28).far hg2_9 hne_g4_7).ext (Ext.drew w2_9)).ext hx37).far hg3_9 hne_g4_7).ext (Ext.drew w3_9)), ⟨_, (hk3_9.ext (Ext.drew w3_9)), rfl⟩⟩
        refine C_draw (S := fun w' => Blk w' g4 ty_api_Secrets [u64v x, u64v y, u64v z] ∧ PreAt u64v w' g7 ty_api_Public [b, (timesP b x), (timesP b y), (baseP z)]) rfl rfl ?_
        have hBd4 : Below w.heap.size w w3_9.drew := (Below.ext hB3_9 (Ext.drew w3_9) hB3_9.size)
        refine A_take 0 rfl (y_fieldB rfl u_api_Public rfl i_uint64) hSd (fun _ _ _ h => h) ?_
        refine A_take 1 rfl (y_load rfl (fun _ e => (e.2.el (j := 3) rfl rfl)) u_uint64) hSd (fun _ _ _ h => h) ?_
        refine A_take 2 rfl (y_fieldB rfl u_api_Secrets rfl i_uint64) hSd (fun _ _ _ h => h) ?_
        refine A_take 3 rfl (y_load rfl (fun _ e => (e.1.at_ 2)) u_uint64) hSd (fun _ _ _ h => h) ?_
        refine A_take 4 rfl (y_move rfl) hSd (fun _ _ _ h => h) ?_
        refine A_act 5 rfl ?_
        refine s_call rfl cl_ref12_draw (ref12_draw_ok (hv.keep fun k hk _ => hBd4.block k hk) 2 (by decide)) ?_
        rintro _ _ ⟨rfl, rfl⟩
        refine ⟨_, rfl, ?_⟩
        have hSd5 : (fun w' => Blk w' g4 ty_api_Secrets [u64v x, u64v y, u64v z] ∧ PreAt u64v w' g7 ty_api_Public [b, (timesP b x), (timesP b y), (baseP z)]) w3_9.drew := ⟨(((((((((((hk4.ext hx6).ext (Ext.drew w6)).ext hx7).far hg1_14 hne_g4_7).ext (Ext.drew w1_14)).ext hx28).far hg2_9 hne_g4_7).ext (Ext.drew w2_9)).ext hx37).far hg3_9 hne_g4_7).ext (Ext.drew w3_9)), ⟨_, (hk3_9.ext (Ext.drew w3_9)), rfl⟩⟩
        refine G_nil ⟨hSd5, ?_⟩
        refine A_act 6 rfl ?_
        refine s_call rfl cl_ref1_Know (ref1_Know_ok 37 _ _ _) ?_
        rintro _ w45 ⟨rfl, hx45⟩
        refine ⟨_, rfl, ?_⟩
        have hSd6 : (fun w' => Blk w' g4 ty_api_Secrets [u64v x, u64v y, u64v z] ∧ PreAt u64v w' g7 ty_api_Public [b, (timesP b x), (timesP b y), (baseP z)]) w45 := ⟨((((((((((((hk4.ext hx6).ext (Ext.drew w6)).ext hx7).far hg1_14 hne_g4_7).ext (Ext.drew w1_14)).ext hx28).far hg2_9 hne_g4_7).ext (Ext.drew w2_9)).ext hx37).far hg3_9 hne_g4_7).ext (Ext.drew w3_9)).ext hx45), ⟨_, (hk3_9.ext ((Ext.drew w3_9).trans hx45)), rfl⟩⟩
        refine G_nil ⟨hSd6, ?_⟩
        refine A_take 7 rfl (y_fieldB rfl u_api_Public rfl i_api_Proof) hSd6 (fun _ _ _ h => h) ?_
        refine A_act 8 rfl ?_
        refine s_store rfl rfl (hk3_9.ext ((Ext.drew w3_9).trans hx45)) i_api_Proof rfl (Nat.le_of_ble_eq_true rfl) rfl ?_
        intro w4_8 hg4_8 hk4_8
        have hb4_8 : Below w.heap.size w45 w4_8 := (Below.refl _ _).grown hg4_8 (Below.ext hBd4 hx45 hBd4.size).size (fun k hk => by cases hk; exact hgB7)
        have hB4_8 : Below w.heap.size w w4_8 := (Below.trans (Below.ext hBd4 hx45 hBd4.size) hb4_8)
        replace hk4_8 : Blk w4_8 g7 ty_api_Public ([b, (timesP b x), (timesP b y), (baseP z), (knowC b (timesP b x) (d.getD 0 0)), (answerS (knowC b (timesP b x) (d.getD 0 0)) x (d.getD 0 0)), (knowC b (timesP b y) (d.getD 1 0)), (answerS (knowC b (timesP b y) (d.getD 1 0)) y (d.getD 1 0)), (knowC 37 (baseP z) (d.getD 2 0)), (answerS (knowC 37 (baseP z) (d.getD 2 0)) z (d.getD 2 0))].map u64v) := hk4_8
        have hSd8 : (fun w' => Blk w' g4 ty_api_Secrets [u64v x, u64v y, u64v z] ∧ PreAt u64v w' g7 ty_api_Public [b, (timesP b x), (timesP b y), (baseP z)]) w4_8 := ⟨(((((((((((((hk4.ext hx6).ext (Ext.drew w6)).ext hx7).far hg1_14 hne_g4_7).ext (Ext.drew w1_14)).ext hx28).far hg2_9 hne_g4_7).ext (Ext.drew w2_9)).ext hx37).far hg3_9 hne_g4_7).ext (Ext.drew w3_9)).ext hx45).far hg4_8 hne_g4_7), ⟨_, hk4_8, rfl⟩⟩
        refine G_nil ⟨hSd8, ?_⟩
        refine A_done ?_
        refine C_seq ?_
        refine C_region ?_
        refine s_v (y_loadA rfl (fun _ e => e ▸ (hk4_8.at_ _)) u_api_Public i_api_Public rfl) ?_
        refine s_store rfl rfl ((((((((((((hk6.ext (Ext.drew w6)).ext hx7).far hg1_14 hne_g6_7).ext (Ext.drew w1_14)).ext hx28).far hg2_9 hne_g6_7).ext (Ext.drew w2_9)).ext hx37).far hg3_9 hne_g6_7).ext (Ext.drew w3_9)).ext hx45).far hg4_8 hne_g6_7) i_api_Public rfl (Nat.le_of_ble_eq_true rfl) rfl ?_
        intro w5_1 hg5_1 hk5_1
        have hb5_1 : Below w.heap.size w4_8 w5_1 := (Below.refl _ _).grown hg5_1 hB4_8.size (fun k hk => by cases hk; exact hgB6)
        replace hk5_1 : Blk w5_1 g6 ty_api_Public ((tellS b x y z d).map u64v) := hk5_1
        refine G_nil ?_
        refine C_ret ?_
        exact ⟨_, (.cell rfl (ldA (hk5_1.at_ _) u_api_Public i_api_Public rfl) .nil), rfl, (Below.trans hB4_8 hb5_1)⟩
      · skip
        refine s_alloc i_api_Public ?_
        intro g7 w7 hgB7 hx7 hk7
        have hne_g4_7 : g4 ≠ g7 := Nat.ne_of_lt (Nat.lt_of_lt_of_le (hk4.ext (hx6.trans (Ext.drew w6))).lt hgB7)
        have hne_g6_7 : g6 ≠ g7 := Nat.ne_of_lt (Nat.lt_of_lt_of_le (hk6.ext (Ext.drew w6)).lt hgB7)
        have hgb7 := hgB7
        replace hgB7 := Nat.le_trans hBd1.size hgB7
        have hSd13 : (fun w' => Blk w' g4 ty_api_Secrets [u64v x, u64v y, u64v z]) w7 := (hk4.ext ((hx6.trans (Ext.drew w6)).trans hx7))
        refine G_nil ⟨hSd13, ?_⟩
        refine A_act 11 rfl ?_
        refine s_call rfl cl_ref1_Base (ref1_Base_ok _) ?_
        rintro _ _ ⟨rfl, rfl⟩
        refine ⟨_, rfl, ?_⟩
        have hSd11 : (fun w' => Blk w' g4 ty_api_Secrets [u64v x, u64v y, u64v z]) w7 := (hk4.ext ((hx6.trans (Ext.drew w6)).trans hx7))
        refine G_nil ⟨hSd11, ?_⟩
        refine A_take 12 rfl (y_build rfl u_api_Public i_api_Public pl_api_Public rfl) hSd11 (fun _ _ _ h => h) ?_
        refine A_act 14 rfl ?_
        refine s_store rfl rfl hk7 i_api_Public rfl (Nat.le_of_ble_eq_true rfl) rfl ?_
        intro w1_14 hg1_14 hk1_14
        have hb1_14 : Below w.heap.size w7 w1_14 := (Below.refl _ _).grown hg1_14 (Below.ext hBd1 hx7 hBd1.size).size (fun k hk => by cases hk; exact hgB7)
        have hB1_14 : Below w.heap.size w w1_14 := (Below.trans (Below.ext hBd1 hx7 hBd1.size) hb1_14)
        replace hk1_14 : Blk w1_14 g7 ty_api_Public ([b, (timesP b x), (timesP b y), (baseP z), 0, 0, 0, 0, 0, 0].map u64v) := hk1_14
        have hSd14 : (fun w' => Blk w' g4 ty_api_Secrets [u64v x, u64v y, u64v z]) w1_14 := ((((hk4.ext hx6).ext (Ext.drew w6)).ext hx7).far hg1_14 hne_g4_7)
        refine G_nil ⟨hSd14, ?_⟩
        refine A_done ?_
        refine C_seq ?_
        have hSd : (fun w' => Blk w' g4 ty_api_Secrets [u64v x, u64v y, u64v z] ∧ PreAt u64v w' g7 ty_api_Public [b, (timesP b x), (timesP b y), (baseP z)]) w1_14.drew := ⟨(((((hk4.ext hx6).ext (Ext.drew w6)).ext hx7).far hg1_14 hne_g4_7).ext (Ext.drew w1_14)), ⟨_, (hk1_14.ext (Ext.drew w1_14)), rfl⟩⟩
        refine C_draw (S := fun w' => Blk w' g4 ty_api_Secrets [u64v x, u64v y, u64v z] ∧ PreAt u64v w' g7 ty_api_Public [b, (timesP b x), (timesP b y), (baseP z)]) rfl rfl ?_
        have hBd2 : Below w.heap.size w w1_14.drew := (Below.ext hB1_14 (Ext.drew w1_14) hB1_14.size)
        refine A_take 0 rfl (y_move rfl) hSd (fun _ _ _ h => h) ?_
        refine A_take 1 rfl (y_fieldB rfl u_api_Public rfl i_uint64) hSd (fun _ _ _ h => h) ?_
        refine A_take 2 rfl (y_load rfl (fun _ e => (e.2.el (j := 1) rfl rfl)) u_uint64) hSd (fun _ _ _ h => h) ?_
        refine A_take 3 rfl (y_fieldB rfl u_api_Secrets rfl i_uint64) hSd (fun _ _ _ h => h) ?_
        refine A_take 4 rfl (y_load rfl (fun _ e => (e.1.at_ 0)) u_uint64) hSd (fun _ _ _ h => h) ?_
        refine A_take 5 rfl (y_move rfl) hSd (fun _ _ _ h => h) ?_
        refine A_act 6 rfl ?_
        refine s_call rfl cl_ref12_draw (ref12_draw_ok (hv.keep fun k hk _ => hBd2.block k hk) 0 (by decide)) ?_
        rintro _ _ ⟨rfl, rfl⟩
        refine ⟨_, rfl, ?_⟩
        have hSd6 : (fun w' => Blk w' g4 ty_api_Secrets [u64v x, u64v y, u64v z] ∧ PreAt u64v w' g7 ty_api_Public [b, (timesP b x), (timesP b y), (baseP z)]) w1_14.drew := ⟨(((((hk4.ext hx6).ext (Ext.drew w6)).ext hx7).far hg1_14 hne_g4_7).ext (Ext.drew w1_14)), ⟨_, (hk1_14.ext (Ext.drew w1_14)), rfl⟩⟩
        refine G_nil ⟨hSd6, ?_⟩
        refine A_act 7 rfl ?_
        refine s_call rfl cl_ref1_Know (ref1_Know_ok _ _ _ _) ?_
        rintro _ w28 ⟨rfl, hx28⟩
        refine ⟨_, rfl, ?_⟩
        have hSd7 : (fun w' => Blk w' g4 ty_api_Secrets [u64v x, u64v y, u64v z] ∧ PreAt u64v w' g7 ty_api_Public [b, (timesP b x), (timesP b y), (baseP z)]) w28 := ⟨((((((hk4.ext hx6).ext (Ext.drew w6)).ext hx7).far hg1_14 hne_g4_7).ext (Ext.drew w1_14)).ext hx28), ⟨_, (hk1_14.ext ((Ext.drew w1_14).trans hx28)), rfl⟩⟩
        refine G_nil ⟨hSd7, ?_⟩
        refine A_take 8 rfl (y_fieldB rfl u_api_Public rfl i_api_Proof) hSd7 (fun _ _ _ h => h) ?_
        refine A_act 9 rfl ?_
        refine s_store rfl rfl (hk1_14.ext ((Ext.drew w1_14).trans hx28)) i_api_Proof rfl (Nat.le_of_ble_eq_true rfl) rfl ?_
        intro w2_9 hg2_9 hk2_9
        have hb2_9 : Below w.heap.size w28 w2_9 := (Below.refl _ _).grown hg2_9 (Below.ext hBd2 hx28 hBd2.size).size (fun k hk => by cases hk; exact hgB7)
        have hB2_9 : Below w.heap.size w w2_9 := (Below.trans (Below.ext hBd2 hx28 hBd2.size) hb2_9)
        replace hk2_9 : Blk w2_9 g7 ty_api_Public ([b, (timesP b x), (timesP b y), (baseP z), (knowC b (timesP b x) (d.getD 0 0)), (answerS (knowC b (timesP b x) (d.getD 0 0)) x (d.getD 0 0)), 0, 0, 0, 0].map u64v) := hk2_9
        have hSd9 : (fun w' => Blk w' g4 ty_api_Secrets [u64v x, u64v y, u64v z] ∧ PreAt u64v w' g7 ty_api_Public [b, (timesP b x), (timesP b y), (baseP z)]) w2_9 := ⟨(((((((hk4.ext hx6).ext (Ext.drew w6)).ext hx7).far hg1_14 hne_g4_7).ext (Ext.drew w1_14)).ext hx28).far hg2_9 hne_g4_7), ⟨_, hk2_9, rfl⟩⟩
        refine G_nil ⟨hSd9, ?_⟩
        refine A_done ?_
        refine C_seq ?_
        have hSd : (fun w' => Blk w' g4 ty_api_Secrets [u64v x, u64v y, u64v z] ∧ PreAt u64v w' g7 ty_api_Public [b, (timesP b x), (timesP b y), (baseP z)]) w2_9.drew := ⟨((((((((hk4.ext hx6).ext (Ext.drew w6)).ext hx7).far hg1_14 hne_g4_7).ext (Ext.drew w1_14)).ext hx28).far hg2_9 hne_g4_7).ext (Ext.drew w2_9)), ⟨_, (hk2_9.ext (Ext.drew w2_9)), rfl⟩⟩
        refine C_draw (S := fun w' => Blk w' g4 ty_api_Secrets [u64v x, u64v y, u64v z] ∧ PreAt u64v w' g7 ty_api_Public [b, (timesP b x), (timesP b y), (baseP z)]) rfl rfl ?_
        have hBd3 : Below w.heap.size w w2_9.drew := (Below.ext hB2_9 (Ext.drew w2_9) hB2_9.size)
        refine A_take 0 rfl (y_move rfl) hSd (fun _ _ _ h => h) ?_
        refine A_take 1 rfl (y_fieldB rfl u_api_Public rfl i_uint64) hSd (fun _ _ _ h => h) ?_
        refine A_take 2 rfl (y_load rfl (fun _ e => (e.2.el (j := 2) rfl rfl)) u_uint64) hSd (fun _ _ _ h => h) ?_
        refine A_take 3 rfl (y_fieldB rfl u_api_Secrets rfl i_uint64) hSd (fun _ _ _ h => h) ?_
        refine A_take 4 rfl (y_load rfl (fun _ e => (e.1.at_ 1)) u_uint64) hSd (fun _ _ _ h => h) ?_
        refine A_take 5 rfl (y_move rfl) hSd (fun _ _ _ h => h) ?_
        refine A_act 6 rfl ?_
        refine s_call rfl cl_ref12_draw (ref12_draw_ok (hv.keep fun k hk _ => hBd3.block k hk) 1 (by decide)) ?_
        rintro _ _ ⟨rfl, rfl⟩
        refine ⟨_, rfl, ?_⟩
        have hSd6 : (fun w' => Blk w' g4 ty_api_Secrets [u64v x, u64v y, u64v z] ∧ PreAt u64v w' g7 ty_api_Public [b, (timesP b x), (timesP b y), (baseP z)]) w2_9.drew := ⟨((((((((hk4.ext hx6).ext (Ext.drew w6)).ext hx7).far hg1_14 hne_g4_7).ext (Ext.drew w1_14)).ext hx28).far hg2_9 hne_g4_7).ext (Ext.drew w2_9)), ⟨_, (hk2_9.ext (Ext.drew w2_9)), rfl⟩⟩
        refine G_nil ⟨hSd6, ?_⟩
        refine A_act 7 rfl ?_
        refine s_call rfl cl_ref1_Know (ref1_Know_ok _ _ _ _) ?_
        rintro _ w37 ⟨rfl, hx37⟩
        refine ⟨_, rfl, ?_⟩
        have hSd7 : (fun w' => Blk w' g4 ty_api_Secrets [u64v x, u64v y, u64v z] ∧ PreAt u64v w' g7 ty_api_Public [b, (timesP b x), (timesP b y), (baseP z)]) w37 := ⟨(((((((((hk4.ext hx6).ext (Ext.drew w6)).ext hx7).far hg1_14 hne_g4_7).ext (Ext.drew w1_14)).ext hx28).far hg2_9 hne_g4_7).ext (Ext.drew w2_9)).ext hx37), ⟨_, (hk2_9.ext ((Ext.drew w2_9).trans hx37)), rfl⟩⟩
        refine G_nil ⟨hSd7, ?_⟩
        refine A_take 8 rfl (y_fieldB rfl u_api_Public rfl i_api_Proof) hSd7 (fun _ _ _ h => h) ?_
        refine A_act 9 rfl ?_
        refine s_store rfl rfl (hk2_9.ext ((Ext.drew w2_9).trans hx37)) i_api_Proof rfl (Nat.le_of_ble_eq_true rfl) rfl ?_
        intro w3_9 hg3_9 hk3_9
        have hb3_9 : Below w.heap.size w37 w3_9 := (Below.refl _ _).grown hg3_9 (Below.ext hBd3 hx37 hBd3.size).size (fun k hk => by cases hk; exact hgB7)
        have hB3_9 : Below w.heap.size w w3_9 := (Below.trans (Below.ext hBd3 hx37 hBd3.size) hb3_9)
        replace hk3_9 : Blk w3_9 g7 ty_api_Public ([b, (timesP b x), (timesP b y), (baseP z), (knowC b (timesP b x) (d.getD 0 0)), (answerS (knowC b (timesP b x) (d.getD 0 0)) x (d.getD 0 0)), (knowC b (timesP b y) (d.getD 1 0)), (answerS (knowC b (timesP b y) (d.getD 1 0)) y (d.getD 1 0)), 0, 0].map u64v) := hk3_9
        have hSd9 : (fun w' => Blk w' g4 ty_api_Secrets [u64v x, u64v y, u64v z] ∧ PreAt u64v w' g7 ty_api_Public [b, (timesP b x), (timesP b y), (baseP z)]) w3_9 := ⟨((((((((((hk4.ext hx6).ext (Ext.drew w6)).ext hx7).far hg1_14 hne_g4_7).ext (Ext.drew w1_14)).ext hx28).far hg2_9 hne_g4_7).ext (Ext.drew w2_9)).ext hx37).far hg3_9 hne_g4_7), ⟨_, hk3_9, rfl⟩⟩
        refine G_nil ⟨hSd9, ?_⟩
        refine A_done ?_
        refine C_seq ?_
        have hSd : (fun w' => Blk w' g4 ty_api_Secrets [u64v x, u64v y, u64v z] ∧ PreAt u64v w' g7 ty_api_Public [b, (timesP b x), (timesP b y), (baseP z)]) w3_9.drew := ⟨(((((((((((hk4.ext hx6).ext (Ext.drew w6)).ext hx7).far hg1_14 hne_g4_7).ext (Ext.drew w1_14)).ext hx28).far hg2_9 hne_g4_7).ext (Ext.drew w2_9)).ext hx37).far hg3_9 hne_g4_7).ext (Ext.drew w3_9)), ⟨_, (hk3_9.ext (Ext.drew w3_9)), rfl⟩⟩
        refine C_draw (S := fun w' => Blk w' g4 ty_api_Secrets [u64v x, u64v y, u64v z] ∧ PreAt u64v w' g7 ty_api_Public [b, (timesP b x), (timesP b y), (baseP z)]) rfl rfl ?_
        have hBd4 : Below w.heap.size w w3_9.drew := (Below.ext hB3_9 (Ext.drew w3_9) hB3_9.size)
        refine A_take 0 rfl (y_fieldB rfl u_api_Public rfl i_uint64) hSd (fun _ _ _ h => h) ?_
        refine A_take 1 rfl (y_load rfl (fun _ e => (e.2.el (j := 3) rfl rfl)) u_uint64) hSd (fun _ _ _ h => h) ?_
        refine A_take 2 rfl (y_fieldB rfl u_api_Secrets rfl i_uint64) hSd (fun _ _ _ h => h) ?_
        refine A_take 3 rfl (y_load rfl (fun _ e => (e.1.at_ 2)) u_uint64) hSd (fun _ _ _ h => h) ?_
        refine A_take 4 rfl (y_move rfl) hSd (fun _ _ _ h => h) ?_
        refine A_act 5 rfl ?_
        refine s_call rfl cl_ref12_draw (ref12_draw_ok (hv.keep fun k hk _ => hBd4.block k hk) 2 (by decide)) ?_
        rintro _ _ ⟨rfl, rfl⟩
        refine ⟨_, rfl, ?_⟩
        have hSd5 : (fun w' => Blk w' g4 ty_api_Secrets [u64v x, u64v y, u64v z] ∧ PreAt u64v w' g7 ty_api_Public [b, (timesP b x), (timesP b y), (baseP z)]) w3_9.drew := ⟨(((((((((((hk4.ext hx6).ext (Ext.drew w6)).ext hx7).far hg1_14 hne_g4_7).ext (Ext.drew w1_14)).ext hx28).far hg2_9 hne_g4_7).ext (Ext.drew w2_9)).ext hx37).far hg3_9 hne_g4_7).ext (Ext.drew w3_9)), ⟨_, (hk3_9.ext (Ext.drew w3_9)), rfl⟩⟩
        refine G_nil ⟨hSd5, ?_⟩
        refine A_act 6 rfl ?_
        refine s_call rfl cl_ref1_Know (ref1_Know_ok 37 _ _ _) ?_
        rintro _ w45 ⟨rfl, hx45⟩
        refine ⟨_, rfl, ?_⟩
        have hSd6 : (fun w' => Blk w' g4 ty_api_Secrets [u64v x, u64v y, u64v z] ∧ PreAt u64v w' g7 ty_api_Public [b, (timesP b x), (timesP b y), (baseP z)]) w45 := ⟨((((((((((((hk4.ext hx6).ext (Ext.drew w6)).ext hx7).far hg1_14 hne_g4_7).ext (Ext.drew w1_14)).ext hx28).far hg2_9 hne_g4_7).ext (Ext.drew w2_9)).ext hx37).far hg3_9 hne_g4_7).ext (Ext.drew w3_9)).ext hx45), ⟨_, (hk3_9.ext ((Ext.drew w3_9).trans hx45)), rfl⟩⟩
        refine G_nil ⟨hSd6, ?_⟩
        refine A_take 7 rfl (y_fieldB rfl u_api_Public rfl i_api_Proof) hSd6 (fun _ _ _ h => h) ?_
        refine A_act 8 rfl ?_
        refine s_store rfl rfl (hk3_9.ext ((Ext.drew w3_9).trans hx45)) i_api_Proof rfl (Nat.le_of_ble_eq_true rfl) rfl ?_
        intro w4_8 hg4_8 hk4_8
        have hb4_8 : Below w.heap.size w45 w4_8 := (Below.refl _ _).grown hg4_8 (Below.ext hBd4 hx45 hBd4.size).size (fun k hk => by cases hk; exact hgB7)
        have hB4_8 : Below w.heap.size w w4_8 := (Below.trans (Below.ext hBd4 hx45 hBd4.size) hb4_8)
        replace hk4_8 : Blk w4_8 g7 ty_api_Public ([b, (timesP b x), (timesP b y), (baseP z), (knowC b (timesP b x) (d.getD 0 0)), (answerS (knowC b (timesP b x) (d.getD 0 0)) x (d.getD 0 0)), (knowC b (timesP b y) (d.getD 1 0)), (answerS (knowC b (timesP b y) (d.getD 1 0)) y (d.getD 1 0)), (knowC 37 (baseP z) (d.getD 2 0)), (answerS (knowC 37 (baseP z) (d.getD 2 0)) z (d.getD 2 0))].map u64v) := hk4_8
        have hSd8 : (fun w' => Blk w' g4 ty_api_Secrets [u64v x, u64v y, u64v z] ∧ PreAt u64v w' g7 ty_api_Public [b, (timesP b x), (timesP b y), (baseP z)]) w4_8 := ⟨(((((((((((((hk4.ext hx6).ext (Ext.drew w6)).ext hx7).far hg1_14 hne_g4_7).ext (Ext.drew w1_14)).ext hx28).far hg2_9 hne_g4_7).ext (Ext.drew w2_9)).ext hx37).far hg3_9 hne_g4_7).ext (Ext.drew w3_9)).ext hx45).far hg4_8 hne_g4_7), ⟨_, hk4_8, rfl⟩⟩
        refine G_nil ⟨hSd8, ?_⟩
        refine A_done ?_
        refine C_seq ?_
        refine C_region ?_
        refine s_v (y_loadA rfl (fun _ e => e ▸ (hk4_8.at_ _)) u_api_Public i_api_Public rfl) ?_
        refine s_store rfl rfl ((((((((((((hk6.ext (Ext.drew w6)).ext hx7).far hg1_14 hne_g6_7).ext (Ext.drew w1_14)).ext hx28).far hg2_9 hne_g6_7).ext (Ext.drew w2_9)).ext hx37).far hg3_9 hne_g6_7).ext (Ext.drew w3_9)).ext hx45).far hg4_8 hne_g6_7) i_api_Public rfl (Nat.le_of_ble_eq_true rfl) rfl ?_
        intro w5_1 hg5_1 hk5_1
        have hb5_1 : Below w.heap.size w4_8 w5_1 := (Below.refl _ _).grown hg5_1 hB4_8.size (fun k hk => by cases hk; exact hgB6)
        replace hk5_1 : Blk w5_1 g6 ty_api_Public ((tellS b x y z d).map u64v) := hk5_1
        refine G_nil ?_
        refine C_ret ?_
        exact ⟨_, (.cell rfl (ldA (hk5_1.at_ _) u_api_Public i_api_Public rfl) .nil), rfl, (Below.trans hB4_8 hb5_1)⟩
    · skip
      refine s_alloc i_api_Public ?_
      intro g7 w7 hgB7 hx7 hk7
      have hne_g4_7 : g4 ≠ g7 := Nat.ne_of_lt (Nat.lt_of_lt_of_le (hk4.ext (hx6.trans (Ext.drew w6))).lt hgB7)
      have hne_g6_7 : g6 ≠ g7 := Nat.ne_of_lt (Nat.lt_of_lt_of_le (hk6.ext (Ext.drew w6)).lt hgB7)
      have hgb7 := hgB7
      replace hgB7 := Nat.le_trans hBd1.size hgB7
      have hSd13 : (fun w' => Blk w' g4 ty_api_Secrets [u64v x, u64v y, u64v z]) w7 := (hk4.ext ((hx6.trans (Ext.drew w6)).trans hx7))
      refine G_nil ⟨hSd13, ?_⟩
      refine A_act 8 rfl ?_
      refine s_call rfl cl_ref1_Times (ref1_Times_ok _ _) ?_
      rintro _ _ ⟨rfl, rfl⟩
      refine ⟨_, rfl, ?_⟩
      have hSd8 : (fun w' => Blk w' g4 ty_api_Secrets [u64v x, u64v y, u64v z]) w7 := (hk4.ext ((hx6.trans (Ext.drew w6)).trans hx7))
      refine G_nil ⟨hSd8, ?_⟩
      refine A_act 11 rfl ?_
      refine s_call rfl cl_ref1_Base (ref1_Base_ok _) ?_
      rintro _ _ ⟨rfl, rfl⟩
      refine ⟨_, rfl, ?_⟩
      have hSd11 : (fun w' => Blk w' g4 ty_api_Secrets [u64v x, u64v y, u64v z]) w7 := (hk4.ext ((hx6.trans (Ext.drew w6)).trans hx7))
      refine G_nil ⟨hSd11, ?_⟩
      refine A_take 12 rfl (y_build rfl u_api_Public i_api_Public pl_api_Public rfl) hSd11 (fun _ _ _ h => h) ?_
      refine A_act 14 rfl ?_
      refine s_store rfl rfl hk7 i_api_Public rfl (Nat.le_of_ble_eq_true rfl) rfl ?_
      intro w1_14 hg1_14 hk1_14
      have hb1_14 : Below w.heap.size w7 w1_14 := (Below.refl _ _).grown hg1_14 (Below.ext hBd1 hx7 hBd1.size).size (fun k hk => by cases hk; exact hgB7)
      have hB1_14 : Below w.heap.size w w1_14 := (Below.trans (Below.ext hBd1 hx7 hBd1.size) hb1_14)
      replace hk1_14 : Blk w1_14 g7 ty_api_Public ([b, (timesP b x), (timesP b y), (baseP z), 0, 0, 0, 0, 0, 0].map u64v) := hk1_14
      have hSd14 : (fun w' => Blk w' g4 ty_api_Secrets [u64v x, u64v y, u64v z]) w1_14 := ((((hk4.ext hx6).ext (Ext.drew w6)).ext hx7).far hg1_14 hne_g4_7)
      refine G_nil ⟨hSd14, ?_⟩
      refine A_done ?_
      refine C_seq ?_
      have hSd : (fun w' => Blk w' g4 ty_api_Secrets [u64v x, u64v y, u64v z] ∧ PreAt u64v w' g7 ty_api_Public [b, (timesP b x), (timesP b y), (baseP z)]) w1_14.drew := ⟨(((((hk4.ext hx6).ext (Ext.drew w6)).ext hx7).far hg1_14 hne_g4_7).ext (Ext.drew w1_14)), ⟨_, (hk1_14.ext (Ext.drew w1_14)), rfl⟩⟩
      refine C_draw (S := fun w' => Blk w' g4 ty_api_Secrets [u64v x, u64v y, u64v z] ∧ PreAt u64v w' g7 ty_api_Public [b, (timesP b x), (timesP b y), (baseP z)]) rfl rfl ?_
      have hBd2 : Below w.heap.size w w1_14.drew := (Below.ext hB1_14 (Ext.drew w1_14) hB1_14.size)
      refine A_take 0 rfl (y_move rfl) hSd (fun _ _ _ h => h) ?_
      refine A_take 1 rfl (y_fieldB rfl u_api_Public rfl i_uint64) hSd (fun _ _ _ h => h) ?_
      refine A_take 2 rfl (y_load rfl (fun _ e => (e.2.el (j := 1) rfl rfl)) u_uint64) hSd (fun _ _ _ h => h) ?_
      refine A_take 3 rfl (y_fieldB rfl u_api_Secrets rfl i_uint64) hSd (fun _ _ _ h => h) ?_
      refine A_take 4 rfl (y_load rfl (fun _ e => (e.1.at_ 0)) u_uint64) hSd (fun _ _ _ h => h) ?_
      refine A_take 5 rfl (y_move rfl) hSd (fun _ _ _ h => h) ?_
      refine A_act 6 rfl ?_
      refine s_call rfl cl_ref12_draw (ref12_draw_ok (hv.keep fun k hk _ => hBd2.block k hk) 0 (by decide)) ?_
      rintro _ _ ⟨rfl, rfl⟩
      refine ⟨_, rfl, ?_⟩
      have hSd6 : (fun w' => Blk w' g4 ty_api_Secrets [u64v x, u64v y, u64v z] ∧ PreAt u64v w' g7 ty_api_Public [b, (timesP b x), (timesP b y), (baseP z)]) w1_14.drew := ⟨(((((hk4.ext hx6).ext (Ext.drew w6)).ext hx7).far hg1_14 hne_g4_7).ext (Ext.drew w1_14)), ⟨_, (hk1_14.ext (Ext.drew w1_14)), rfl⟩⟩
      refine G_nil ⟨hSd6, ?_⟩
      refine A_act 7 rfl ?_
      refine s_call rfl cl_ref1_Know (ref1_Know_ok _ _ _ _) ?_
      rintro _ w28 ⟨rfl, hx28⟩
      refine ⟨_, rfl, ?_⟩
      have hSd7 : (fun w' => Blk w' g4 ty_api_Secrets [u64v x, u64v y, u64v z] ∧ PreAt u64v w' g7 ty_api_Public [b, (timesP b x), (timesP b y), (baseP z)]) w28 := ⟨((((((hk4.ext hx6).ext (Ext.drew w6)).ext hx7).far hg1_14 hne_g4_7).ext (Ext.drew w1_14)).ext hx28), ⟨_, (hk1_14.ext ((Ext.drew w1_14).trans hx28)), rfl⟩⟩
      refine G_nil ⟨hSd7, ?_⟩
      refine A_take 8 rfl (y_fieldB rfl u_api_Public rfl i_api_Proof) hSd7 (fun _ _ _ h => h) ?_
      refine A_act 9 rfl ?_
      refine s_store rfl rfl (hk1_14.ext ((Ext.drew w1_14).trans hx28)) i_api_Proof rfl (Nat.le_of_ble_eq_true rfl) rfl ?_
      intro w2_9 hg2_9 hk2_9
      have hb2_9 : Below w.heap.size w28 w2_9 := (Below.refl _ _).grown hg2_9 (Below.ext hBd2 hx28 hBd2.size).size (fun k hk => by cases hk; exact hgB7)
      have hB2_9 : Below w.heap.size w w2_9 := (Below.trans (Below.ext hBd2 hx28 hBd2.size) hb2_9)
      replace hk2_9 : Blk w2_9 g7 ty_api_Public ([b, (timesP b x), (timesP b y), (baseP z), (knowC b (timesP b x) (d.getD 0 0)), (answerS (knowC b (timesP b x) (d.getD 0 0)) x (d.getD 0 0)), 0, 0, 0, 0].map u64v) := hk2_9
      have hSd9 : (fun w' => Blk w' g4 ty_api_Secrets [u64v x, u64v y, u64v z] ∧ PreAt u64v w' g7 ty_api_Public [b, (timesP b x), (timesP b y), (baseP z)]) w2_9 := ⟨(((((((hk4.ext hx6).ext (Ext.drew w6)).ext hx7).far hg1_14 hne_g4_7).ext (Ext.drew w1_14)).ext hx28).far hg2_9 hne_g4_7), ⟨_, hk2_9, rfl⟩⟩
      refine G_nil ⟨hSd9, ?_⟩
      refine A_done ?_
      refine C_seq ?_
      have hSd : (fun w' => Blk w' g4 ty_api_Secrets [u64v x, u64v y, u64v z] ∧ PreAt u64v w' g7 ty_api_Public [b, (timesP b x), (timesP b y), (baseP z)]) w2_9.drew := ⟨((((((((hk4.ext hx6).ext (Ext.drew w6)).ext hx7).far hg1_14 hne_g4_7).ext (Ext.drew w1_14)).ext hx28).far hg2_9 hne_g4_7).ext (Ext.drew w2_9)), ⟨_, (hk2_9.ext (Ext.drew w2_9)), rfl⟩⟩
      refine C_draw (S := fun w' => Blk w' g4 ty_api_Secrets [u64v x, u64v y, u64v z] ∧ PreAt u64v w' g7 ty_api_Public [b, (timesP b x), (timesP b y), (baseP z)]) rfl rfl ?_
      have hBd3 : Below w.heap.size w w2_9.drew := (Below.ext hB2_9 (Ext.drew w2_9) hB2_9.size)
      refine A_take 0 rfl (y_move rfl) hSd (fun _ _ _ h => h) ?_
      refine A_take 1 rfl (y_fieldB rfl u_api_Public rfl i_uint64) hSd (fun _ _ _ h => h) ?_
      refine A_take 2 rfl (y_load rfl (fun _ e => (e.2.el (j := 2) rfl rfl)) u_uint64) hSd (fun _ _ _ h => h) ?_
      refine A_take 3 rfl (y_fieldB rfl u_api_Secrets rfl i_uint64) hSd (fun _ _ _ h => h) ?_
      refine A_take 4 rfl (y_load rfl (fun _ e => (e.1.at_ 1)) u_uint64) hSd (fun _ _ _ h => h) ?_
      refine A_take 5 rfl (y_move rfl) hSd (fun _ _ _ h => h) ?_
      refine A_act 6 rfl ?_
      refine s_call rfl cl_ref12_draw (ref12_draw_ok (hv.keep fun k hk _ => hBd3.block k hk) 1 (by decide)) ?_
      rintro _ _ ⟨rfl, rfl⟩
      refine ⟨_, rfl, ?_⟩
      have hSd6 : (fun w' => Blk w' g4 ty_api_Secrets [u64v x, u64v y, u64v z] ∧ PreAt u64v w' g7 ty_api_Public [b, (timesP b x), (timesP b y), (baseP z)]) w2_9.drew := ⟨((((((((hk4.ext hx6).ext (Ext.drew w6)).ext hx7).far hg1_14 hne_g4_7).ext (Ext.drew w1_14)).ext hx28).far hg2_9 hne_g4_7).ext (Ext.drew w2_9)), ⟨_, (hk2_9.ext (Ext.drew w2_9)), rfl⟩⟩
      refine G_nil ⟨hSd6, ?_⟩
      refine A_act 7 rfl ?_
      refine s_call rfl cl_ref1_Know (ref1_Know_ok _ _ _ _) ?_
      rintro _ w37 ⟨rfl, hx37⟩
      refine ⟨_, rfl, ?_⟩
      have hSd7 : (fun w' => Blk w' g4 ty_api_Secrets [u64v x, u64v y, u64v z] ∧ PreAt u64v w' g7 ty_api_Public [b, (timesP b x), (timesP b y), (baseP z)]) w37 := ⟨(((((((((hk4.ext hx6).ext (Ext.drew w6)).ext hx7).far hg1_14 hne_g4_7).ext (Ext.drew w1_14)).ext hx28).far hg2_9 hne_g4_7).ext (Ext.drew w2_9)).ext hx37), ⟨_, (hk2_9.ext ((Ext.drew w2_9).trans hx37)), rfl⟩⟩
      refine G_nil ⟨hSd7, ?_⟩
      refine A_take 8 rfl (y_fieldB rfl u_api_Public rfl i_api_Proof) hSd7 (fun _ _ _ h => h) ?_
      refine A_act 9 rfl ?_
      refine s_store rfl rfl (hk2_9.ext ((Ext.drew w2_9).trans hx37)) i_api_Proof rfl (Nat.le_of_ble_eq_true rfl) rfl ?_
      intro w3_9 hg3_9 hk3_9
      have hb3_9 : Below w.heap.size w37 w3_9 := (Below.refl _ _).grown hg3_9 (Below.ext hBd3 hx37 hBd3.size).size (fun k hk => by cases hk; exact hgB7)
      have hB3_9 : Below w.heap.size w w3_9 := (Below.trans (Below.ext hBd3 hx37 hBd3.size) hb3_9)
      replace hk3_9 : Blk w3_9 g7 ty_api_Public ([b, (timesP b x), (timesP b y), (baseP z), (knowC b (timesP b x) (d.getD 0 0)), (answerS (knowC b (timesP b x) (d.getD 0 0)) x (d.getD 0 0)), (knowC b (timesP b y) (d.getD 1 0)), (answerS (knowC b (timesP b y) (d.getD 1 0)) y (d.getD 1 0)), 0, 0].map u64v) := hk3_9
      have hSd9 : (fun w' => Blk w' g4 ty_api_Secrets [u64v x, u64v y, u64v z] ∧ PreAt u64v w' g7 ty_api_Public [b, (timesP b x), (timesP b y), (baseP z)]) w3_9 := ⟨((((((((((hk4.ext hx6).ext (Ext.drew w6)).ext hx7).far hg1_14 hne_g4_7).ext (Ext.drew w1_14)).ext hx28).far hg2_9 hne_g4_7).ext (Ext.drew w2_9)).ext hx37).far hg3_9 hne_g4_7), ⟨_, hk3_9, rfl⟩⟩
      refine G_nil ⟨hSd9, ?_⟩
      refine A_done ?_
      refine C_seq ?_
      have hSd : (fun w' => Blk w' g4 ty_api_Secrets [u64v x, u64v y, u64v z] ∧ PreAt u64v w' g7 ty_api_Public [b, (timesP b x), (timesP b y), (baseP z)]) w3_9.drew := ⟨(((((((((((hk4.ext hx6).ext (Ext.drew w6)).ext hx7).far hg1_14 hne_g4_7).ext (Ext.drew w1_14)).ext hx28).far hg2_9 hne_g4_7).ext (Ext.drew w2_9)).ext hx37).far hg3_9 hne_g4_7).ext (Ext.drew w3_9)), ⟨_, (hk3_9.ext (Ext.drew w3_9)), rfl⟩⟩
      refine C_draw (S := fun w' => Blk w' g4 ty_api_Secrets [u64v x, u64v y, u64v z] ∧ PreAt u64v w' g7 ty_api_Public [b, (timesP b x), (timesP b y), (baseP z)]) rfl rfl ?_
      have hBd4 : Below w.heap.size w w3_9.drew := (Below.ext hB3_9 (Ext.drew w3_9) hB3_9.size)
      refine A_take 0 rfl (y_fieldB rfl u_api_Public rfl i_uint64) hSd (fun _ _ _ h => h) ?_
      refine A_take 1 rfl (y_load rfl (fun _ e => (e.2.el (j := 3) rfl rfl)) u_uint64) hSd (fun _ _ _ h => h) ?_
      refine A_take 2 rfl (y_fieldB rfl u_api_Secrets rfl i_uint64) hSd (fun _ _ _ h => h) ?_
      refine A_take 3 rfl (y_load rfl (fun _ e => (e.1.at_ 2)) u_uint64) hSd (fun _ _ _ h => h) ?_
      refine A_take 4 rfl (y_move rfl) hSd (fun _ _ _ h => h) ?_
      refine A_act 5 rfl ?_
      refine s_call rfl cl_ref12_draw (ref12_draw_ok (hv.keep fun k hk _ => hBd4.block k hk) 2 (by decide)) ?_
      rintro _ _ ⟨rfl, rfl⟩
      refine ⟨_, rfl, ?_⟩
      have hSd5 : (fun w' => Blk w' g4 ty_api_Secrets [u64v x, u64v y, u64v z] ∧ PreAt u64v w' g7 ty_api_Public [b, (timesP b x), (timesP b y), (baseP z)]) w3_9.drew := ⟨(((((((((((hk4.ext hx6).ext (Ext.drew w6)).ext hx7).far hg1_14 hne_g4_7).ext (Ext.drew w1_14)).ext hx28).far hg2_9 hne_g4_7).ext (Ext.drew w2_9)).ext hx37).far hg3_9 hne_g4_7).ext (Ext.drew w3_9)), ⟨_, (hk3_9.ext (Ext.drew w3_9)), rfl⟩⟩
      refine G_nil ⟨hSd5, ?_⟩
      refine A_act 6 rfl ?_
      refine s_call rfl cl_ref1_Know (ref1_Know_ok 37 _ _ _) ?_
      rintro _ w45 ⟨rfl, hx45⟩
      refine ⟨_, rfl, ?_⟩
      have hSd6 : (fun w' => Blk w' g4 ty_api_Secrets [u64v x, u64v y, u64v z] ∧ PreAt u64v w' g7 ty_api_Public [b, (timesP b x), (timesP b y), (baseP z)]) w45 := ⟨((((((((((((hk4.ext hx6).ext (Ext.drew w6)).ext hx7).far hg1_14 hne_g4_7).ext (Ext.drew w1_14)).ext hx28).far hg2_9 hne_g4_7).ext (Ext.drew w2_9)).ext hx37).far hg3_9 hne_g4_7).ext (Ext.drew w3_9)).ext hx45), ⟨_, (hk3_9.ext ((Ext.drew w3_9).trans hx45)), rfl⟩⟩
      refine G_nil ⟨hSd6, ?_⟩
      refine A_take 7 rfl (y_fieldB rfl u_api_Public rfl i_api_Proof) hSd6 (fun _ _ _ h => h) ?_
      refine A_act 8 rfl ?_
      refine s_store rfl rfl (hk3_9.ext ((Ext.drew w3_9).trans hx45)) i_api_Proof rfl (Nat.le_of_ble_eq_true rfl) rfl ?_
      intro w4_8 hg4_8 hk4_8
      have hb4_8 : Below w.heap.size w45 w4_8 := (Below.refl _ _).grown hg4_8 (Below.ext hBd4 hx45 hBd4.size).size (fun k hk => by cases hk; exact hgB7)
      have hB4_8 : Below w.heap.size w w4_8 := (Below.trans (Below.ext hBd4 hx45 hBd4.size) hb4_8)
      replace hk4_8 : Blk w4_8 g7 ty_api_Public ([b, (timesP b x), (timesP b y), (baseP z), (knowC b (timesP b x) (d.getD 0 0)), (answerS (knowC b (timesP b x) (d.getD 0 0)) x (d.getD 0 0)), (knowC b (timesP b y) (d.getD 1 0)), (answerS (knowC b (timesP b y) (d.getD 1 0)) y (d.getD 1 0)), (knowC 37 (baseP z) (d.getD 2 0)), (answerS (knowC 37 (baseP z) (d.getD 2 0)) z (d.getD 2 0))].map u64v) := hk4_8
      have hSd8 : (fun w' => Blk w' g4 ty_api_Secrets [u64v x, u64v y, u64v z] ∧ PreAt u64v w' g7 ty_api_Public [b, (timesP b x), (timesP b y), (baseP z)]) w4_8 := ⟨(((((((((((((hk4.ext hx6).ext (Ext.drew w6)).ext hx7).far hg1_14 hne_g4_7).ext (Ext.drew w1_14)).ext hx28).far hg2_9 hne_g4_7).ext (Ext.drew w2_9)).ext hx37).far hg3_9 hne_g4_7).ext (Ext.drew w3_9)).ext hx45).far hg4_8 hne_g4_7), ⟨_, hk4_8, rfl⟩⟩
      refine G_nil ⟨hSd8, ?_⟩
      refine A_done ?_
      refine C_seq ?_
      refine C_region ?_
      refine s_v (y_loadA rfl (fun _ e => e ▸ (hk4_8.at_ _)) u_api_Public i_api_Public rfl) ?_
      refine s_store rfl rfl ((((((((((((hk6.ext (Ext.drew w6)).ext hx7).far hg1_14 hne_g6_7).ext (Ext.drew w1_14)).ext hx28).far hg2_9 hne_g6_7).ext (Ext.drew w2_9)).ext hx37).far hg3_9 hne_g6_7).ext (Ext.drew w3_9)).ext hx45).far hg4_8 hne_g6_7) i_api_Public rfl (Nat.le_of_ble_eq_true rfl) rfl ?_
      intro w5_1 hg5_1 hk5_1
      have hb5_1 : Below w.heap.size w4_8 w5_1 := (Below.refl _ _).grown hg5_1 hB4_8.size (fun k hk => by cases hk; exact hgB6)
      replace hk5_1 : Blk w5_1 g6 ty_api_Public ((tellS b x y z d).map u64v) := hk5_1
      refine G_nil ?_
      refine C_ret ?_
      exact ⟨_, (.cell rfl (ldA (hk5_1.at_ _) u_api_Public i_api_Public rfl) .nil), rfl, (Below.trans hB4_8 hb5_1)⟩
  · skip
    refine s_alloc i_api_Public ?_
    intro g7 w7 hgB7 hx7 hk7
    have hne_g4_7 : g4 ≠ g7 := Nat.ne_of_lt (Nat.lt_of_lt_of_le (hk4.ext (hx6.trans (Ext.drew w6))).lt hgB7)
    have hne_g6_7 : g6 ≠ g7 := Nat.ne_of_lt (Nat.lt_of_lt_of_le (hk6.ext (Ext.drew w6)).lt hgB7)
    have hgb7 := hgB7
    replace hgB7 := Nat.le_trans hBd1.size hgB7
    have hSd13 : (fun w' => Blk w' g4 ty_api_Secrets [u64v x, u64v y, u64v z]) w7 := (hk4.ext ((hx6.trans (Ext.drew w6)).trans hx7))
    refine G_nil ⟨hSd13, ?_⟩
    refine A_act 4 rfl ?_
    refine s_call rfl cl_ref1_Times (ref1_Times_ok _ _) ?_
    rintro _ _ ⟨rfl, rfl⟩
    refine ⟨_, rfl, ?_⟩
    have hSd4 : (fun w' => Blk w' g4 ty_api_Secrets [u64v x, u64v y, u64v z]) w7 := (hk4.ext ((hx6.trans (Ext.drew w6)).trans hx7))
    refine G_nil ⟨hSd4, ?_⟩
    refine A_act 8 rfl ?_
    refine s_call rfl cl_ref1_Times (ref1_Times_ok _ _) ?_
    rintro _ _ ⟨rfl, rfl⟩
    refine ⟨_, rfl, ?_⟩
    have hSd8 : (fun w' => Blk w' g4 ty_api_Secrets [u64v x, u64v y, u64v z]) w7 := (hk4.ext ((hx6.trans (Ext.drew w6)).trans hx7))
    refine G_nil ⟨hSd8, ?_⟩
    refine A_act 11 rfl ?_
    refine s_call rfl cl_ref1_Base (ref1_Base_ok _) ?_
    rintro _ _ ⟨rfl, rfl⟩
    refine ⟨_, rfl, ?_⟩
    have hSd11 : (fun w' => Blk w' g4 ty_api_Secrets [u64v x, u64v y, u64v z]) w7 := (hk4.ext ((hx6.trans (Ext.drew w6)).trans hx7))
    refine G_nil ⟨hSd11, ?_⟩
    refine A_take 12 rfl (y_build rfl u_api_Public i_api_Public pl_api_Public rfl) hSd11 (fun _ _ _ h => h) ?_
    refine A_act 14 rfl ?_
    refine s_store rfl rfl hk7 i_api_Public rfl (Nat.le_of_ble_eq_true rfl) rfl ?_
    intro w1_14 hg1_14 hk1_14
    have hb1_14 : Below w.heap.size w7 w1_14 := (Below.refl _ _).grown hg1_14 (Below.ext hBd1 hx7 hBd1.size).size (fun k hk => by cases hk; exact hgB7)
    have hB1_14 : Below w.heap.size w w1_14 := (Below.trans (Below.ext hBd1 hx7 hBd1.size) hb1_14)
    replace hk1_14 : Blk w1_14 g7 ty_api_Public ([b, (timesP b x), (timesP b y), (baseP z), 0, 0, 0, 0, 0, 0].map u64v) := hk1_14
    have hSd14 : (fun w' => Blk w' g4 ty_api_Secrets [u64v x, u64v y, u64v z]) w1_14 := ((((hk4.ext hx6).ext (Ext.drew w6)).ext hx7).far hg1_14 hne_g4_7)
    refine G_nil ⟨hSd14, ?_⟩
    refine A_done ?_
    refine C_seq ?_
    have hSd : (fun w' => Blk w' g4 ty_api_Secrets [u64v x, u64v y, u64v z] ∧ PreAt u64v w' g7 ty_api_Public [b, (timesP b x), (timesP b y), (baseP z)]) w1_14.drew := ⟨(((((hk4.ext hx6).ext (Ext.drew w6)).ext hx7).far hg1_14 hne_g4_7).ext (Ext.drew w1_14)), ⟨_, (hk1_14.ext (Ext.drew w1_14)), rfl⟩⟩
    refine C_draw (S := fun w' => Blk w' g4 ty_api_Secrets [u64v x, u64v y, u64v z] ∧ PreAt u64v w' g7 ty_api_Public [b, (timesP b x), (timesP b y), (baseP z)]) rfl rfl ?_
    have hBd2 : Below w.heap.size w w1_14.drew := (Below.ext hB1_14 (Ext.drew w1_14) hB1_14.size)
    refine A_take 0 rfl (y_move rfl) hSd (fun _ _ _ h => h) ?_
    refine A_take 1 rfl (y_fieldB rfl u_api_Public rfl i_uint64) hSd (fun _ _ _ h => h) ?_
    refine A_take 2 rfl (y_load rfl (fun _ e => (e.2.el (j := 1) rfl rfl)) u_uint64) hSd (fun _ _ _ h => h) ?_
    refine A_take 3 rfl (y_fieldB rfl u_api_Secrets rfl i_uint64) hSd (fun _ _ _ h => h) ?_
    refine A_take 4 rfl (y_load rfl (fun _ e => (e.1.at_ 0)) u_uint64) hSd (fun _ _ _ h => h) ?_
    refine A_take 5 rfl (y_move rfl) hSd (fun _ _ _ h => h) ?_
    refine A_act 6 rfl ?_
    refine s_call rfl cl_ref12_draw (ref12_draw_ok (hv.keep fun k hk _ => hBd2.block k hk) 0 (by decide)) ?_
    rintro _ _ ⟨rfl, rfl⟩
    refine ⟨_, rfl, ?_⟩
    have hSd6 : (fun w' => Blk w' g4 ty_api_Secrets [u64v x, u64v y, u64v z] ∧ PreAt u64v w' g7 ty_api_Public [b, (timesP b x), (timesP b y), (baseP z)]) w1_14.drew := ⟨(((((hk4.ext hx6).ext (Ext.drew w6)).ext hx7).far hg1_14 hne_g4_7).ext (Ext.drew w1_14)), ⟨_, (hk1_14.ext (Ext.drew w1_14)), rfl⟩⟩
    refine G_nil ⟨hSd6, ?_⟩
    refine A_act 7 rfl ?_
    refine s_call rfl cl_ref1_Know (ref1_Know_ok _ _ _ _) ?_
    rintro _ w28 ⟨rfl, hx28⟩
    refine ⟨_, rfl, ?_⟩
    have hSd7 : (fun w' => Blk w' g4 ty_api_Secrets [u64v x, u64v y, u64v z] ∧ PreAt u64v w' g7 ty_api_Public [b, (timesP b x), (timesP b y), (baseP z)]) w28 := ⟨((((((hk4.ext hx6).ext (Ext.drew w6)).ext hx7).far hg1_14 hne_g4_7).ext (Ext.drew w1_14)).ext hx28), ⟨_, (hk1_14.ext ((Ext.drew w1_14).trans hx28)), rfl⟩⟩
    refine G_nil ⟨hSd7, ?_⟩
    refine A_take 8 rfl (y_fieldB rfl u_api_Public rfl i_api_Proof) hSd7 (fun _ _ _ h => h) ?_
    refine A_act 9 rfl ?_
    refine s_store rfl rfl (hk1_14.ext ((Ext.drew w1_14).trans hx28)) i_api_Proof rfl (Nat.le_of_ble_eq_true rfl) rfl ?_
    intro w2_9 hg2_9 hk2_9
    have hb2_9 : Below w.heap.size w28 w2_9 := (Below.refl _ _).grown hg2_9 (Below.ext hBd2 hx28 hBd2.size).size (fun k hk => by cases hk; exact hgB7)
    have hB2_9 : Below w.heap.size w w2_9 := (Below.trans (Below.ext hBd2 hx28 hBd2.size) hb2_9)
    replace hk2_9 : Blk w2_9 g7 ty_api_Public ([b, (timesP b x), (timesP b y), (baseP z), (knowC b (timesP b x) (d.getD 0 0)), (answerS (knowC b (timesP b x) (d.getD 0 0)) x (d.getD 0 0)), 0, 0, 0, 0].map u64v) := hk2_9
    have hSd9 : (fun w' => Blk w' g4 ty_api_Secrets [u64v x, u64v y, u64v z] ∧ PreAt u64v w' g7 ty_api_Public [b, (timesP b x), (timesP b y), (baseP z)]) w2_9 := ⟨(((((((hk4.ext hx6).ext (Ext.drew w6)).ext hx7).far hg1_14 hne_g4_7).ext (Ext.drew w1_14)).ext hx28).far hg2_9 hne_g4_7), ⟨_, hk2_9, rfl⟩⟩
    refine G_nil ⟨hSd9, ?_⟩
    refine A_done ?_
    refine C_seq ?_
    have hSd : (fun w' => Blk w' g4 ty_api_Secrets [u64v x, u64v y, u64v z] ∧ PreAt u64v w' g7 ty_api_Public [b, (timesP b x), (timesP b y), (baseP z)]) w2_9.drew := ⟨((((((((hk4.ext hx6).ext (Ext.drew w6)).ext hx7).far hg1_14 hne_g4_7).ext (Ext.drew w1_14)).ext hx28).far hg2_9 hne_g4_7).ext (Ext.drew w2_9)), ⟨_, (hk2_9.ext (Ext.drew w2_9)), rfl⟩⟩
    refine C_draw (S := fun w' => Blk w' g4 ty_api_Secrets [u64v x, u64v y, u64v z] ∧ PreAt u64v w' g7 ty_api_Public [b, (timesP b x), (timesP b y), (baseP z)]) rfl rfl ?_
    have hBd3 : Below w.heap.size w w2_9.drew := (Below.ext hB2_9 (Ext.drew w2_9) hB2_9.size)
    refine A_take 0 rfl (y_move rfl) hSd (fun _ _ _ h => h) ?_
    refine A_take 1 rfl (y_fieldB rfl u_api_Public rfl i_uint64) hSd (fun _ _ _ h => h) ?_
    refine A_take 2 rfl (y_load rfl (fun _ e => (e.2.el (j := 2) rfl rfl)) u_uint64) hSd (fun _ _ _ h => h) ?_
    refine A_take 3 rfl (y_fieldB rfl u_api_Secrets rfl i_uint64) hSd (fun _ _ _ h => h) ?_
    refine A_take 4 rfl (y_load rfl (fun _ e => (e.1.at_ 1)) u_uint64) hSd (fun _ _ _ h => h) ?_
    refine A_take 5 rfl (y_move rfl) hSd (fun _ _ _ h => h) ?_
    refine A_act 6 rfl ?_
    refine s_call rfl cl_ref12_draw (ref12_draw_ok (hv.keep fun k hk _ => hBd3.block k hk) 1 (by decide)) ?_
    rintro _ _ ⟨rfl, rfl⟩
    refine ⟨_, rfl, ?_⟩
    have hSd6 : (fun w' => Blk w' g4 ty_api_Secrets [u64v x, u64v y, u64v z] ∧ PreAt u64v w' g7 ty_api_Public [b, (timesP b x), (timesP b y), (baseP z)]) w2_9.drew := ⟨((((((((hk4.ext hx6).ext (Ext.drew w6)).ext hx7).far hg1_14 hne_g4_7).ext (Ext.drew w1_14)).ext hx28).far hg2_9 hne_g4_7).ext (Ext.drew w2_9)), ⟨_, (hk2_9.ext (Ext.drew w2_9)), rfl⟩⟩
    refine G_nil ⟨hSd6, ?_⟩
    refine A_act 7 rfl ?_
    refine s_call rfl cl_ref1_Know (ref1_Know_ok _ _ _ _) ?_
    rintro _ w37 ⟨rfl, hx37⟩
    refine ⟨_, rfl, ?_⟩
    have hSd7 : (fun w' => Blk w' g4 ty_api_Secrets [u64v x, u64v y, u64v z] ∧ PreAt u64v w' g7 ty_api_Public [b, (timesP b x), (timesP b y), (baseP z)]) w37 := ⟨(((((((((hk4.ext hx6).ext (Ext.drew w6)).ext hx7).far hg1_14 hne_g4_7).ext (Ext.drew w1_14)).ext hx28).far hg2_9 hne_g4_7).ext (Ext.drew w2_9)).ext hx37), ⟨_, (hk2_9.ext ((Ext.drew w2_9).trans hx37)), rfl⟩⟩
    refine G_nil ⟨hSd7, ?_⟩
    refine A_take 8 rfl (y_fieldB rfl u_api_Public rfl i_api_Proof) hSd7 (fun _ _ _ h => h) ?_
    refine A_act 9 rfl ?_
    refine s_store rfl rfl (hk2_9.ext ((Ext.drew w2_9).trans hx37)) i_api_Proof rfl (Nat.le_of_ble_eq_true rfl) rfl ?_
    intro w3_9 hg3_9 hk3_9
    have hb3_9 : Below w.heap.size w37 w3_9 := (Below.refl _ _).grown hg3_9 (Below.ext hBd3 hx37 hBd3.size).size (fun k hk => by cases hk; exact hgB7)
    have hB3_9 : Below w.heap.size w w3_9 := (Below.trans (Below.ext hBd3 hx37 hBd3.size) hb3_9)
    replace hk3_9 : Blk w3_9 g7 ty_api_Public ([b, (timesP b x), (timesP b y), (baseP z), (knowC b (timesP b x) (d.getD 0 0)), (answerS (knowC b (timesP b x) (d.getD 0 0)) x (d.getD 0 0)), (knowC b (timesP b y) (d.getD 1 0)), (answerS (knowC b (timesP b y) (d.getD 1 0)) y (d.getD 1 0)), 0, 0].map u64v) := hk3_9
    have hSd9 : (fun w' => Blk w' g4 ty_api_Secrets [u64v x, u64v y, u64v z] ∧ PreAt u64v w' g7 ty_api_Public [b, (timesP b x), (timesP b y), (baseP z)]) w3_9 := ⟨((((((((((hk4.ext hx6).ext (Ext.drew w6)).ext hx7).far hg1_14 hne_g4_7).ext (Ext.drew w1_14)).ext hx28).far hg2_9 hne_g4_7).ext (Ext.drew w2_9)).ext hx37).far hg3_9 hne_g4_7), ⟨_, hk3_9, rfl⟩⟩
    refine G_nil ⟨hSd9, ?_⟩
    refine A_done ?_
    refine C_seq ?_
    have hSd : (fun w' => Blk w' g4 ty_api_Secrets [u64v x, u64v y, u64v z] ∧ PreAt u64v w' g7 ty_api_Public [b, (timesP b x), (timesP b y), (baseP z)]) w3_9.drew := ⟨(((((((((((hk4.ext hx6).ext (Ext.drew w6)).ext hx7).far hg1_14 hne_g4_7).ext (Ext.drew w1_14)).ext hx28).far hg2_9 hne_g4_7).ext (Ext.drew w2_9)).ext hx37).far hg3_9 hne_g4_7).ext (Ext.drew w3_9)), ⟨_, (hk3_9.ext (Ext.drew w3_9)), rfl⟩⟩
    refine C_draw (S := fun w' => Blk w' g4 ty_api_Secrets [u64v x, u64v y, u64v z] ∧ PreAt u64v w' g7 ty_api_Public [b, (timesP b x), (timesP b y), (baseP z)]) rfl rfl ?_
    have hBd4 : Below w.heap.size w w3_9.drew := (Below.ext hB3_9 (Ext.drew w3_9) hB3_9.size)
    refine A_take 0 rfl (y_fieldB rfl u_api_Public rfl i_uint64) hSd (fun _ _ _ h => h) ?_
    refine A_take 1 rfl (y_load rfl (fun _ e => (e.2.el (j := 3) rfl rfl)) u_uint64) hSd (fun _ _ _ h => h) ?_
    refine A_take 2 rfl (y_fieldB rfl u_api_Secrets rfl i_uint64) hSd (fun _ _ _ h => h) ?_
    refine A_take 3 rfl (y_load rfl (fun _ e => (e.1.at_ 2)) u_uint64) hSd (fun _ _ _ h => h) ?_
    refine A_take 4 rfl (y_move rfl) hSd (fun _ _ _ h => h) ?_
    refine A_act 5 rfl ?_
    refine s_call rfl cl_ref12_draw (ref12_draw_ok (hv.keep fun k hk _ => hBd4.block k hk) 2 (by decide)) ?_
    rintro _ _ ⟨rfl, rfl⟩
    refine ⟨_, rfl, ?_⟩
    have hSd5 : (fun w' => Blk w' g4 ty_api_Secrets [u64v x, u64v y, u64v z] ∧ PreAt u64v w' g7 ty_api_Public [b, (timesP b x), (timesP b y), (baseP z)]) w3_9.drew := ⟨(((((((((((hk4.ext hx6).ext (Ext.drew w6)).ext hx7).far hg1_14 hne_g4_7).ext (Ext.drew w1_14)).ext hx28).far hg2_9 hne_g4_7).ext (Ext.drew w2_9)).ext hx37).far hg3_9 hne_g4_7).ext (Ext.drew w3_9)), ⟨_, (hk3_9.ext (Ext.drew w3_9)), rfl⟩⟩
    refine G_nil ⟨hSd5, ?_⟩
    refine A_act 6 rfl ?_
    refine s_call rfl cl_ref1_Know (ref1_Know_ok 37 _ _ _) ?_
    rintro _ w45 ⟨rfl, hx45⟩
    refine ⟨_, rfl, ?_⟩
    have hSd6 : (fun w' => Blk w' g4 ty_api_Secrets [u64v x, u64v y, u64v z] ∧ PreAt u64v w' g7 ty_api_Public [b, (timesP b x), (timesP b y), (baseP z)]) w45 := ⟨((((((((((((hk4.ext hx6).ext (Ext.drew w6)).ext hx7).far hg1_14 hne_g4_7).ext (Ext.drew w1_14)).ext hx28).far hg2_9 hne_g4_7).ext (Ext.drew w2_9)).ext hx37).far hg3_9 hne_g4_7).ext (Ext.drew w3_9)).ext hx45), ⟨_, (hk3_9.ext ((Ext.drew w3_9).trans hx45)), rfl⟩⟩
    refine G_nil ⟨hSd6, ?_⟩
    refine A_take 7 rfl (y_fieldB rfl u_api_Public rfl i_api_Proof) hSd6 (fun _ _ _ h => h) ?_
    refine A_act 8 rfl ?_
    refine s_store rfl rfl (hk3_9.ext ((Ext.drew w3_9).trans hx45)) i_api_Proof rfl (Nat.le_of_ble_eq_true rfl) rfl ?_
    intro w4_8 hg4_8 hk4_8
    have hb4_8 : Below w.heap.size w45 w4_8 := (Below.refl _ _).grown hg4_8 (Below.ext hBd4 hx45 hBd4.size).size (fun k hk => by cases hk; exact hgB7)
    have hB4_8 : Below w.heap.size w w4_8 := (Below.trans (Below.ext hBd4 hx45 hBd4.size) hb4_8)
    replace hk4_8 : Blk w4_8 g7 ty_api_Public ([b, (timesP b x), (timesP b y), (baseP z), (knowC b (timesP b x) (d.getD 0 0)), (answerS (knowC b (timesP b x) (d.getD 0 0)) x (d.getD 0 0)), (knowC b (timesP b y) (d.getD 1 0)), (answerS (knowC b (timesP b y) (d.getD 1 0)) y (d.getD 1 0)), (knowC 37 (baseP z) (d.getD 2 0)), (answerS (knowC 37 (baseP z) (d.getD 2 0)) z (d.getD 2 0))].map u64v) := hk4_8
    have hSd8 : (fun w' => Blk w' g4 ty_api_Secrets [u64v x, u64v y, u64v z] ∧ PreAt u64v w' g7 ty_api_Public [b, (timesP b x), (timesP b y), (baseP z)]) w4_8 := ⟨(((((((((((((hk4.ext hx6).ext (Ext.drew w6)).ext hx7).far hg1_14 hne_g4_7).ext (Ext.drew w1_14)).ext hx28).far hg2_9 hne_g4_7).ext (Ext.drew w2_9)).ext hx37).far hg3_9 hne_g4_7).ext (Ext.drew w3_9)).ext hx45).far hg4_8 hne_g4_7), ⟨_, hk4_8, rfl⟩⟩
    refine G_nil ⟨hSd8, ?_⟩
    refine A_done ?_
    refine C_seq ?_
    refine C_region ?_
    refine s_v (y_loadA rfl (fun _ e => e ▸ (hk4_8.at_ _)) u_api_Public i_api_Public rfl) ?_
    refine s_store rfl rfl ((((((((((((hk6.ext (Ext.drew w6)).ext hx7).far hg1_14 hne_g6_7).ext (Ext.drew w1_14)).ext hx28).far hg2_9 hne_g6_7).ext (Ext.drew w2_9)).ext hx37).far hg3_9 hne_g6_7).ext (Ext.drew w3_9)).ext hx45).far hg4_8 hne_g6_7) i_api_Public rfl (Nat.le_of_ble_eq_true rfl) rfl ?_
    intro w5_1 hg5_1 hk5_1
    have hb5_1 : Below w.heap.size w4_8 w5_1 := (Below.refl _ _).grown hg5_1 hB4_8.size (fun k hk => by cases hk; exact hgB6)
    replace hk5_1 : Blk w5_1 g6 ty_api_Public ((tellS b x y z d).map u64v) := hk5_1
    refine G_nil ?_
    refine C_ret ?_
    exact ⟨_, (.cell rfl (ldA (hk5_1.at_ _) u_api_Public i_api_Public rfl) .nil), rfl, (Below.trans hB4_8 hb5_1)⟩

abbrev KSec : Kd (List UInt64) := Kd.farr 3 (by decide) u64v fun _ => rfl
abbrev KPub : Kd (List UInt64) := Kd.farr 10 (by decide) u64v fun _ => rfl
theorem flat_KSec : KSec.Flat := fun h => h
theorem flat_KPub : KPub.Flat := fun h => h
theorem three {l : List UInt64} (h : l.length = 3) : ∃ x y z, l = [x, y, z] := by
  match l, h with
  | [x, y, z], _ => exact ⟨x, y, z, rfl⟩
theorem ten {l : List UInt64} (h : l.length = 10) : ∃ a b c d e f g i j k, l = [a, b, c, d, e, f, g, i, j, k] := by
  match l, h with
  | [a, b, c, d, e, f, g, i, j, k], _ => exact ⟨a, b, c, d, e, f, g, i, j, k, rfl⟩
theorem eq_prf (d0 : Nat) (a b : UInt64) : ∀ w, (Op.equalIn (d0 + 2) ty_api_Proof (.agg #[u64v a, u64v b]) (.agg #[u64v a, u64v b])).run Pr w = .ok true w :=
  eq_str (fs := [⟨ "C", 24, 0, false, "", "", 0⟩, ⟨ "S", 24, 1, false, "", "", 8⟩]) u_api_Proof (by kernel_rfl) (eqF_cons (by decide) (run_part1 u_uint64 rfl) (eq_u64 u_uint64 _) (eqF_cons (by decide) (run_part1 u_uint64 rfl) (eq_u64 u_uint64 _) eqF_nil))
theorem eq_api_Public (l : List UInt64) (hl : l.length = 10) : ∀ w, (Op.equalIn 10000 ty_api_Public (.agg (l.map u64v).toArray) (.agg (l.map u64v).toArray)).run Pr w = .ok true w := by
  obtain ⟨a, b, c, d, e, f, g, i, j, k, rfl⟩ := ten hl
  exact eq_str (fs := [⟨ "Base", 24, 0, false, "", "", 0⟩, ⟨ "Blind", 24, 1, false, "", "", 8⟩, ⟨ "Mix", 24, 2, false, "", "", 16⟩, ⟨ "Inner", 24, 3, false, "", "", 24⟩, ⟨ "ByBlind", 33, 4, false, "", "", 32⟩, ⟨ "ByMix", 33, 6, false, "", "", 48⟩, ⟨ "ByInner", 33, 8, false, "", "", 64⟩]) u_api_Public (by kernel_rfl) (eqF_cons (by decide) (run_part1 u_uint64 rfl) (eq_u64 u_uint64 _) (eqF_cons (by decide) (run_part1 u_uint64 rfl) (eq_u64 u_uint64 _) (eqF_cons (by decide) (run_part1 u_uint64 rfl) (eq_u64 u_uint64 _) (eqF_cons (by decide) (run_part1 u_uint64 rfl) (eq_u64 u_uint64 _) (eqF_cons (by decide) (run_partA u_api_Proof i_api_Proof) (eq_prf _ _ _) (eqF_cons (by decide) (run_partA u_api_Proof i_api_Proof) (eq_prf _ _ _) (eqF_cons (by decide) (run_partA u_api_Proof i_api_Proof) (eq_prf _ _ _) eqF_nil)))))))
theorem tellS_len (b x y z : UInt64) (d : List UInt64) : (tellS b x y z d).length = 10 := rfl
theorem Kd.Els.agg {α : Type} {K : Kd α} {F : Nat → Prop} {w : World} {l : List Value} {x : α} (h : K.R F w l x) : K.Els F w ([Value.agg l.toArray].flatMap fun v => v.cells.toList) [x] := by
  have e : ([Value.agg l.toArray].flatMap fun v => v.cells.toList) = l := by simp [Value.cells]
  rw [e]
  exact Kd.Els.single h
/-- What a chain tells, and the base behind it. -/
def chainF (L ds : List (List UInt64)) : Nat → List (List UInt64) × UInt64
  | 0 => ([], 37)
  | k + 1 => ((chainF L ds k).1 ++ [tellS (chainF L ds k).2 ((L.getD k []).getD 0 0) ((L.getD k []).getD 1 0) ((L.getD k []).getD 2 0) (ds.getD k [])], timesP (chainF L ds k).2 ((L.getD k []).getD 0 0))
theorem chainF_len (L ds : List (List UInt64)) : ∀ k, (chainF L ds k).1.length = k
  | 0 => rfl
  | k + 1 => by rw [chainF, List.length_append, chainF_len L ds k]; rfl
theorem getDs {L : List (List UInt64)} {k : Nat} {s : List UInt64} (h : L[k]? = some s) : L.getD k [] = s := by rw [List.getD_eq_getElem?_getD, h]; rfl
theorem getDn {L : List (List UInt64)} {k : Nat} (h : ¬ k < L.length) : L.getD k [] = [] := by rw [List.getD_eq_getElem?_getD, List.getElem?_eq_none (by omega)]; rfl
theorem chain_step {L ds : List (List UInt64)} {k : Nat} {x y z : UInt64} {d : List UInt64} (h : L[k]? = some [x, y, z]) (hd : ds.getD k [] = d) : chainF L ds (k + 1) = ((chainF L ds k).1 ++ [tellS (chainF L ds k).2 x y z d], timesP (chainF L ds k).2 x) := by
  rw [chainF, getDs h, hd]; rfl

theorem nilSl {F : Nat → Prop} {w : World} {dd : List UInt64} (h : dd = []) : Kd.u64.Sl F w (.slice none 0 0) dd := by rw [h]; exact Kd.Sl.nil _ _ _

theorem keys_Chain_ok {F : Nat → Prop} {w : World} {v v2 : Value} {L ds : List (List UInt64)} (hF : ∀ k, w.heap.size ≤ k → F k) (hv : KSec.Sl F w v L) (hd : (Kd.slice Kd.u64).Sl F w v2 ds) (hl : L.length ≤ 1000) :
    Calls Pr N_keys_Chain #[v, v2] w fun e w' => ∃ r, e = .returned r ∧ KPub.Own F w.heap.size ty_api_Public w' r (chainF L ds L.length).1 ∧ Ext w w' := by
  have hvl := hv.len_le
  have hdl := hd.len_le
  simp only [maxLen] at hvl hdl
  refine calls (args := [v, v2]) fn_keys_Chain rfl rfl rfl rfl ?_
  refine C_seq ?_
  refine C_region ?_
  refine s_v (y_assign rfl) ?_
  refine G_nil ?_
  refine C_seq ?_
  refine C_region ?_
  refine s_v (y_assign rfl) ?_
  refine G_nil ?_
  refine C_seq ?_
  refine C_region ?_
  refine s_v (y_assign (v := u64v 37) rfl) ?_
  refine G_nil ?_
  refine C_seq ?_
  refine C_seq ?_
  refine C_region ?_
  refine s_v (y_move rfl) ?_
  refine s_v (y_len rfl hv u_sl_api_Secrets) ?_
  refine s_v (y_move rfl) ?_
  refine G_nil ?_
  refine C_block ?_
  refine C_loop (α := Nat × Value) (fun (k, u) => [(1, v2), (5, u), (6, u64v (chainF L ds k).2), (11, v), (12, iv (L.length : Int)), (13, iv (k : Int))]) (fun (k, u) w' => k ≤ L.length ∧ KPub.Own F w.heap.size ty_api_Public w' u (chainF L ds k).1 ∧ Below w.heap.size w w') (fun (k, u) => L.length - k) (0, .slice none 0 0) (.cons rfl (.cons rfl (.cons rfl (.cons rfl (.cons rfl (.cons rfl (.nil))))))) ⟨Nat.zero_le _, Kd.Own.nil _ _ _ _ _, (Below.refl _ _)⟩ ?_
  rintro ⟨k, u⟩ wL0 ⟨hk, hu, hBL⟩
  refine C_seq ?_
  refine C_region ?_
  refine s_v (y_bin rfl rfl (fun _ => v_lss)) ?_
  refine G_nil ?_
  refine C_seq ?_
  refine C_if rfl (fun hc14 => ?_) (fun hc14 => ?_)
  · skip
    replace hk : k < L.length := by omega
    obtain ⟨s, hsk⟩ : ∃ s, L[k]? = some s := ⟨_, List.getElem?_eq_getElem (by omega)⟩
    refine C_skip ?_
    refine C_seq ?_
    refine C_block ?_
    refine C_seq ?_
    refine C_region ?_
    refine s_v (y_move rfl) ?_
    refine s_idx rfl rfl (hv.keep fun k hk _ => hBL.block k hk) (by omega) hsk u_sl_api_Secrets i_api_Secrets ?_
    rintro ad16 _ hF16 ⟨hl16, rfl⟩ hc16
    obtain ⟨x, y, z, rfl⟩ := three hl16
    refine s_v (y_loadA rfl (fun _ e => e ▸ hc16) u_api_Secrets i_api_Secrets rfl) ?_
    refine s_alloc i_api_Secrets ?_
    intro g8 w8 hgB8 hx8 hk8
    have hgb8 := hgB8
    replace hgB8 := Nat.le_trans hBL.size hgB8
    refine s_v (y_assign rfl) ?_
    refine s_store rfl rfl hk8 i_api_Secrets rfl (Nat.le_of_ble_eq_true rfl) rfl ?_
    intro w5_5 hg5_5 hk5_5
    have hb5_5 : Below w.heap.size w8 w5_5 := (Below.refl _ _).grown hg5_5 (Below.ext hBL hx8 hBL.size).size (fun k hk => by cases hk; exact hgB8)
    have hB5_5 : Below w.heap.size w w5_5 := (Below.trans (Below.ext hBL hx8 hBL.size) hb5_5)
    replace hk5_5 : Blk w5_5 g8 ty_api_Secrets ([x, y, z].map u64v) := hk5_5
    refine G_nil ?_
    refine C_seq ?_
    refine C_region ?_
    refine s_v (y_assign rfl) ?_
    refine G_nil ?_
    refine C_seq ?_
    refine C_seq ?_
    refine C_region ?_
    refine s_v (y_move rfl) ?_
    refine s_v (y_move rfl) ?_
    refine s_v (y_len rfl hd u_sl_sl_uint64) ?_
    refine s_v (y_bin rfl rfl (fun _ => v_lss)) ?_
    refine G_nil ?_
    refine C_if rfl (fun hc21 => ?_) (fun hc21 => ?_)
    · skip
      obtain ⟨dd, hdk⟩ : ∃ s, ds[k]? = some s := ⟨_, List.getElem?_eq_getElem (by omega)⟩
      have hdd : ds.getD k [] = dd := getDs hdk
      refine C_region ?_
      refine s_v (y_move rfl) ?_
      refine s_v (y_move rfl) ?_
      refine s_idx rfl rfl (hd.keep fun k hk _ => hB5_5.block k hk) (by omega) hdk u_sl_sl_uint64 i_sl_uint64 ?_
      rintro ad24 _ hF24 ⟨v24, rfl, hs24⟩ hc24
      refine s_v (y_load rfl (fun _ e => e ▸ hc24) u_sl_uint64) ?_
      refine s_v (y_assign rfl) ?_
      refine G_nil ?_
      refine C_seq ?_
      refine C_region ?_
      refine s_v (y_move rfl) ?_
      refine s_v (y_loadA rfl (fun _ e => e ▸ (hk5_5.at_ _)) u_api_Secrets i_api_Secrets rfl) ?_
      refine s_v (y_move rfl) ?_
      refine s_call rfl cl_keys_Tell (keys_Tell_ok _ _ _ _ hs24) ?_
      rintro _ w29 ⟨rfl, hx29⟩
      refine ⟨_, rfl, ?_⟩
      refine s_alloc i_api_Public ?_
      intro g10 w10 hgB10 hx10 hk10
      have hne_g8_10 : g8 ≠ g10 := Nat.ne_of_lt (Nat.lt_of_lt_of_le (hk5_5.ext hx29).lt hgB10)
      have hgb10 := hgB10
      replace hgB10 := Nat.le_trans (Below.ext hB5_5 hx29 hB5_5.size).size hgB10
      have hB10 : Below w.heap.size w w10 := (Below.ext (Below.ext hB5_5 hx29 hB5_5.size) hx10 (Below.ext hB5_5 hx29 hB5_5.size).size)
      refine s_store rfl rfl hk10 i_api_Public rfl (Nat.le_of_ble_eq_true rfl) rfl ?_
      intro w9_5 hg9_5 hk9_5
      have hb9_5 : Below w.heap.size w10 w9_5 := (Below.refl _ _).grown hg9_5 hB10.size (fun k hk => by cases hk; exact hgB10)
      replace hk9_5 : Blk w9_5 g10 ty_api_Public ((tellS (chainF L ds k).2 x y z dd).map u64v) := hk9_5
      refine G_nil ?_
      have hSd : (fun w' => Blk w' g10 ty_api_Public ((tellS (chainF L ds k).2 x y z dd).map u64v)) w9_5.drew := (hk9_5.ext (Ext.drew w9_5))
      refine C_draw (S := fun w' => Blk w' g10 ty_api_Public ((tellS (chainF L ds k).2 x y z dd).map u64v)) rfl rfl ?_
      have hBd10 : Below w.heap.size w w9_5.drew := (Below.ext (Below.trans hB10 hb9_5) (Ext.drew w9_5) (Below.trans hB10 hb9_5).size)
      refine A_take 0 rfl (y_move rfl) hSd (fun _ _ _ h => h) ?_
      refine A_take 1 rfl (y_loadA rfl (fun _ e => e.cells) u_api_Public i_api_Public rfl) hSd (fun _ _ _ h => h) ?_
      refine A_take 4 rfl (y_fieldB rfl u_api_Public rfl i_uint64) hSd (fun _ _ _ h => h) ?_
      refine A_take 5 rfl (y_load rfl (fun _ e => (e.at_ 1)) u_uint64) hSd (fun _ _ _ h => h) ?_
      refine A_act 2 rfl ?_
      refine s_lit (K := KPub) (F := F) (xs := [tellS (chainF L ds k).2 x y z dd]) rfl rfl rfl rfl u_sl_api_Public i_api_Public rfl (by decide) (by decide) (by simp [Value.cells, KPub, Kd.farr, tellS]) (Kd.Els.agg ⟨rfl, rfl⟩) ?_
      intro v32 w32 h32 hx32
      have hSd2 : (fun w' => Blk w' g10 ty_api_Public ((tellS (chainF L ds k).2 x y z dd).map u64v)) w32 := (hk9_5.ext ((Ext.drew w9_5).trans hx32))
      refine G_nil ⟨hSd2, ?_⟩
      refine A_act 3 rfl ?_
      refine s_append (K := KPub) rfl rfl (((((((hu.ext hx8).kb hk8 flat_KPub hg5_5 (by decide)).ext hx29).ext hx10).kn flat_KPub hg9_5 (Kd.Own.nef hu (by have h1 := hx8.size; have h2 := hb5_5.size; have h3 := hx29.size; omega))).ext (Ext.drew w9_5)).ext hx32) ((h32.lower hBd10.size).sl (fun k hk => hF k hk)) u_sl_api_Public i_api_Public rfl flat_KPub (by rw [chainF_len]; simp [maxLen]; omega) (by rw [chainF_len]; simp; omega) (Below.ext hBd10 hx32 hBd10.size).size ?_
      intro v33 w33 h33 hg33 hb33
      have hB33 : Below w.heap.size w w33 := (Below.trans (Below.ext hBd10 hx32 hBd10.size) hb33)
      have hSd3 : (fun w' => Blk w' g10 ty_api_Public ((tellS (chainF L ds k).2 x y z dd).map u64v)) w33 := (((hk9_5.ext (Ext.drew w9_5)).ext hx32).kn hg33 (Kd.Own.nef hu (by have h1 := hx8.size; have h2 := hb5_5.size; have h3 := hx29.size; omega)))
      refine G_nil ⟨hSd3, ?_⟩
      refine A_take 6 rfl (y_assign rfl) hSd3 (fun _ _ _ h => h) ?_
      refine A_take 7 rfl (y_assign rfl) hSd3 (fun _ _ _ h => h) ?_
      refine A_done ?_
      refine C_region ?_
      refine s_v (y_bin rfl rfl (fun _ => v_add (by omega))) ?_
      refine s_v (y_move rfl) ?_
      refine G_nil ?_
      have hst := chain_step hsk hdd
      refine ⟨(k + 1, v33), .cons rfl (.cons rfl (.cons (by rw [hst]; rfl) (.cons rfl (.cons rfl (.cons rfl .nil))))), ⟨by omega, ?_, hB33⟩, by simp only []; omega⟩
      rw [hst]
      exact h33
    · skip
      obtain ⟨dd, hdd0⟩ : ∃ dd : List UInt64, dd = [] := ⟨[], rfl⟩
      have hdd : ds.getD k [] = dd := by rw [hdd0]; exact getDn (by omega)
      refine C_skip ?_
      refine C_seq ?_
      refine C_region ?_
      refine s_v (y_move rfl) ?_
      refine s_v (y_loadA rfl (fun _ e => e ▸ (hk5_5.at_ _)) u_api_Secrets i_api_Secrets rfl) ?_
      refine s_v (y_move rfl) ?_
      refine s_call rfl cl_keys_Tell (keys_Tell_ok _ _ _ _ ((nilSl (F := F) (w := w) hdd0).keep fun k hk _ => hB5_5.block k hk)) ?_
      rintro _ w29 ⟨rfl, hx29⟩
      refine ⟨_, rfl, ?_⟩
      refine s_alloc i_api_Public ?_
      intro g10 w10 hgB10 hx10 hk10
      have hne_g8_10 : g8 ≠ g10 := Nat.ne_of_lt (Nat.lt_of_lt_of_le (hk5_5.ext hx29).lt hgB10)
      have hgb10 := hgB10
      replace hgB10 := Nat.le_trans (Below.ext hB5_5 hx29 hB5_5.size).size hgB10
      have hB10 : Below w.heap.size w w10 := (Below.ext (Below.ext hB5_5 hx29 hB5_5.size) hx10 (Below.ext hB5_5 hx29 hB5_5.size).size)
      refine s_store rfl rfl hk10 i_api_Public rfl (Nat.le_of_ble_eq_true rfl) rfl ?_
      intro w9_5 hg9_5 hk9_5
      have hb9_5 : Below w.heap.size w10 w9_5 := (Below.refl _ _).grown hg9_5 hB10.size (fun k hk => by cases hk; exact hgB10)
      replace hk9_5 : Blk w9_5 g10 ty_api_Public ((tellS (chainF L ds k).2 x y z dd).map u64v) := hk9_5
      refine G_nil ?_
      have hSd : (fun w' => Blk w' g10 ty_api_Public ((tellS (chainF L ds k).2 x y z dd).map u64v)) w9_5.drew := (hk9_5.ext (Ext.drew w9_5))
      refine C_draw (S := fun w' => Blk w' g10 ty_api_Public ((tellS (chainF L ds k).2 x y z dd).map u64v)) rfl rfl ?_
      have hBd10 : Below w.heap.size w w9_5.drew := (Below.ext (Below.trans hB10 hb9_5) (Ext.drew w9_5) (Below.trans hB10 hb9_5).size)
      refine A_take 0 rfl (y_move rfl) hSd (fun _ _ _ h => h) ?_
      refine A_take 1 rfl (y_loadA rfl (fun _ e => e.cells) u_api_Public i_api_Public rfl) hSd (fun _ _ _ h => h) ?_
      refine A_take 4 rfl (y_fieldB rfl u_api_Public rfl i_uint64) hSd (fun _ _ _ h => h) ?_
      refine A_take 5 rfl (y_load rfl (fun _ e => (e.at_ 1)) u_uint64) hSd (fun _ _ _ h => h) ?_
      refine A_act 2 rfl ?_
      refine s_lit (K := KPub) (F := F) (xs := [tellS (chainF L ds k).2 x y z dd]) rfl rfl rfl rfl u_sl_api_Public i_api_Public rfl (by decide) (by decide) (by simp [Value.cells, KPub, Kd.farr, tellS]) (Kd.Els.agg ⟨rfl, rfl⟩) ?_
      intro v32 w32 h32 hx32
      have hSd2 : (fun w' => Blk w' g10 ty_api_Public ((tellS (chainF L ds k).2 x y z dd).map u64v)) w32 := (hk9_5.ext ((Ext.drew w9_5).trans hx32))
      refine G_nil ⟨hSd2, ?_⟩
      refine A_act 3 rfl ?_
      refine s_append (K := KPub) rfl rfl (((((((hu.ext hx8).kb hk8 flat_KPub hg5_5 (by decide)).ext hx29).ext hx10).kn flat_KPub hg9_5 (Kd.Own.nef hu (by have h1 := hx8.size; have h2 := hb5_5.size; have h3 := hx29.size; omega))).ext (Ext.drew w9_5)).ext hx32) ((h32.lower hBd10.size).sl (fun k hk => hF k hk)) u_sl_api_Public i_api_Public rfl flat_KPub (by rw [chainF_len]; simp [maxLen]; omega) (by rw [chainF_len]; simp; omega) (Below.ext hBd10 hx32 hBd10.size).size ?_
      intro v33 w33 h33 hg33 hb33
      have hB33 : Below w.heap.size w w33 := (Below.trans (Below.ext hBd10 hx32 hBd10.size) hb33)
      have hSd3 : (fun w' => Blk w' g10 ty_api_Public ((tellS (chainF L ds k).2 x y z dd).map u64v)) w33 := (((hk9_5.ext (Ext.drew w9_5)).ext hx32).kn hg33 (Kd.Own.nef hu (by have h1 := hx8.size; have h2 := hb5_5.size; have h3 := hx29.size; omega)))
      refine G_nil ⟨hSd3, ?_⟩
      refine A_take 6 rfl (y_assign rfl) hSd3 (fun _ _ _ h => h) ?_
      refine A_take 7 rfl (y_assign rfl) hSd3 (fun _ _ _ h => h) ?_
      refine A_done ?_
      refine C_region ?_
      refine s_v (y_bin rfl rfl (fun _ => v_add (by omega))) ?_
      refine s_v (y_move rfl) ?_
      refine G_nil ?_
      have hst := chain_step hsk hdd
      refine ⟨(k + 1, v33), .cons rfl (.cons rfl (.cons (by rw [hst]; rfl) (.cons rfl (.cons rfl (.cons rfl .nil))))), ⟨by omega, ?_, hB33⟩, by simp only []; omega⟩
      rw [hst]
      exact h33
  · skip
    obtain rfl : k = L.length := by omega
    refine C_exit ?_
    refine C_seq ?_
    refine C_region ?_
    refine s_v (y_move rfl) ?_
    refine s_v (y_assign rfl) ?_
    refine G_nil ?_
    refine C_ret ?_
    exact ⟨_, (.tmp rfl .nil), _, rfl, hu, hBL⟩

theorem ref12_Chain_ok {F : Nat → Prop} {w : World} {v v2 : Value} {L ds : List (List UInt64)} (hF : ∀ k, w.heap.size ≤ k → F k) (hv : KSec.Sl F w v L) (hd : (Kd.slice Kd.u64).Sl F w v2 ds) (hl : L.length ≤ 1000) :
    Calls Pr N_ref12_Chain #[v, v2] w fun e w' => ∃ r, e = .returned r ∧ KPub.Own F w.heap.size ty_api_Public w' r (chainF L ds L.length).1 ∧ Ext w w' := by
  have hvl := hv.len_le
  have hdl := hd.len_le
  simp only [maxLen] at hvl hdl
  refine calls (args := [v, v2]) fn_ref12_Chain rfl rfl rfl rfl ?_
  refine C_seq ?_
  refine C_region ?_
  refine s_v (y_assign rfl) ?_
  refine G_nil ?_
  refine C_seq ?_
  refine C_region ?_
  refine s_v (y_assign rfl) ?_
  refine G_nil ?_
  refine C_seq ?_
  refine C_region ?_
  refine s_v (y_assign (v := u64v 37) rfl) ?_
  refine G_nil ?_
  refine C_seq ?_
  refine C_seq ?_
  refine C_region ?_
  refine s_v (y_assign rfl) ?_
  refine G_nil ?_
  refine C_block ?_
  refine C_loop (α := Nat × Value) (fun (k, u) => [(0, v), (1, v2), (5, u), (6, u64v (chainF L ds k).2), (7, iv (k : Int))]) (fun (k, u) w' => k ≤ L.length ∧ KPub.Own F w.heap.size ty_api_Public w' u (chainF L ds k).1 ∧ Below w.heap.size w w') (fun (k, u) => L.length - k) (0, .slice none 0 0) (.cons rfl (.cons rfl (.cons rfl (.cons rfl (.cons rfl (.nil)))))) ⟨Nat.zero_le _, Kd.Own.nil _ _ _ _ _, (Below.refl _ _)⟩ ?_
  rintro ⟨k, u⟩ wL0 ⟨hk, hu, hBL⟩
  refine C_seq ?_
  refine C_seq ?_
  refine C_region ?_
  refine s_v (y_move rfl) ?_
  refine s_v (y_move rfl) ?_
  refine s_v (y_len rfl hv u_sl_api_Secrets) ?_
  refine s_v (y_bin rfl rfl (fun _ => v_lss)) ?_
  refine G_nil ?_
  refine C_if rfl (fun hc13 => ?_) (fun hc13 => ?_)
  · skip
    replace hk : k < L.length := by omega
    obtain ⟨s, hsk⟩ : ∃ s, L[k]? = some s := ⟨_, List.getElem?_eq_getElem (by omega)⟩
    refine C_skip ?_
    refine C_seq ?_
    refine C_block ?_
    refine C_seq ?_
    refine C_region ?_
    refine s_v (y_assign rfl) ?_
    refine G_nil ?_
    refine C_seq ?_
    refine C_seq ?_
    refine C_region ?_
    refine s_v (y_move rfl) ?_
    refine s_v (y_move rfl) ?_
    refine s_v (y_len rfl hd u_sl_sl_uint64) ?_
    refine s_v (y_bin rfl rfl (fun _ => v_lss)) ?_
    refine G_nil ?_
    refine C_if rfl (fun hc19 => ?_) (fun hc19 => ?_)
    · skip
      obtain ⟨dd, hdk⟩ : ∃ s, ds[k]? = some s := ⟨_, List.getElem?_eq_getElem (by omega)⟩
      have hdd : ds.getD k [] = dd := getDs hdk
      refine C_region ?_
      refine s_v (y_move rfl) ?_
      refine s_v (y_move rfl) ?_
      refine s_idx rfl rfl (hd.keep fun k hk _ => hBL.block k hk) (by omega) hdk u_sl_sl_uint64 i_sl_uint64 ?_
      rintro ad22 _ hF22 ⟨v22, rfl, hs22⟩ hc22
      refine s_v (y_load rfl (fun _ e => e ▸ hc22) u_sl_uint64) ?_
      refine s_v (y_assign rfl) ?_
      refine G_nil ?_
      refine C_seq ?_
      refine C_region ?_
      refine s_v (y_move rfl) ?_
      refine s_v (y_move rfl) ?_
      refine s_v (y_move rfl) ?_
      refine s_idx rfl rfl (hv.keep fun k hk _ => hBL.block k hk) (by omega) hsk u_sl_api_Secrets i_api_Secrets ?_
      rintro ad27 _ hF27 ⟨hl27, rfl⟩ hc27
      obtain ⟨x, y, z, rfl⟩ := three hl27
      refine s_v (y_loadA rfl (fun _ e => e ▸ hc27) u_api_Secrets i_api_Secrets rfl) ?_
      refine s_v (y_move rfl) ?_
      refine s_call rfl cl_ref12_Tell (ref12_Tell_ok _ _ _ _ hs22) ?_
      rintro _ w30 ⟨rfl, hx30⟩
      refine ⟨_, rfl, ?_⟩
      refine s_alloc i_api_Public ?_
      intro g9 w9 hgB9 hx9 hk9
      have hgb9 := hgB9
      replace hgB9 := Nat.le_trans (Below.ext hBL hx30 hBL.size).size hgB9
      have hB9 : Below w.heap.size w w9 := (Below.ext (Below.ext hBL hx30 hBL.size) hx9 (Below.ext hBL hx30 hBL.size).size)
      refine s_store rfl rfl hk9 i_api_Public rfl (Nat.le_of_ble_eq_true rfl) rfl ?_
      intro w9_8 hg9_8 hk9_8
      have hb9_8 : Below w.heap.size w9 w9_8 := (Below.refl _ _).grown hg9_8 hB9.size (fun k hk => by cases hk; exact hgB9)
      replace hk9_8 : Blk w9_8 g9 ty_api_Public ((tellS (chainF L ds k).2 x y z dd).map u64v) := hk9_8
      refine G_nil ?_
      refine C_seq ?_
      refine C_region ?_
      refine s_v (y_move rfl) ?_
      refine s_v (y_loadA rfl (fun _ e => e ▸ (hk9_8.at_ _)) u_api_Public i_api_Public rfl) ?_
      refine s_lit (K := KPub) (F := F) (xs := [tellS (chainF L ds k).2 x y z dd]) rfl rfl rfl rfl u_sl_api_Public i_api_Public rfl (by decide) (by decide) (by simp [Value.cells, KPub, Kd.farr, tellS]) (Kd.Els.agg ⟨rfl, rfl⟩) ?_
      intro v33 w33 h33 hx33
      have hB33 : Below w.heap.size w w33 := (Below.ext (Below.trans hB9 hb9_8) hx33 (Below.trans hB9 hb9_8).size)
      refine s_append (K := KPub) rfl rfl ((((hu.ext hx30).ext hx9).kn flat_KPub hg9_8 (Kd.Own.nef hu (by have h3 := hx30.size; omega))).ext hx33) ((h33.lower (Below.trans hB9 hb9_8).size).sl (fun k hk => hF k hk)) u_sl_api_Public i_api_Public rfl flat_KPub (by rw [chainF_len]; simp [maxLen]; omega) (by rw [chainF_len]; simp; omega) hB33.size ?_
      intro v34 w34 h34 hg34 hb34
      refine s_v (y_assign rfl) ?_
      refine G_nil ?_
      refine C_region ?_
      refine s_v (y_fieldB rfl u_api_Public rfl i_uint64) ?_
      refine s_v (y_load rfl (fun _ e => e ▸ (((hk9_8.ext hx33).kn hg34 (Kd.Own.nef hu (by have h3 := hx30.size; omega))).at_ _)) u_uint64) ?_
      refine s_v (y_assign rfl) ?_
      refine G_nil ?_
      refine C_region ?_
      refine s_v (y_move rfl) ?_
      refine s_v (y_bin rfl rfl (fun _ => v_add (by omega))) ?_
      refine s_v (y_assign rfl) ?_
      refine G_nil ?_
      have hst := chain_step hsk hdd
      refine ⟨(k + 1, v34), .cons rfl (.cons rfl (.cons rfl (.cons (by rw [hst]; rfl) (.cons rfl .nil)))), ⟨by omega, ?_, (Below.trans hB33 hb34)⟩, by simp only []; omega⟩
      rw [hst]
      exact h34
    · skip
      obtain ⟨dd, hdd0⟩ : ∃ dd : List UInt64, dd = [] := ⟨[], rfl⟩
      have hdd : ds.getD k [] = dd := by rw [hdd0]; exact getDn (by omega)
      refine C_skip ?_
      refine C_seq ?_
      refine C_region ?_
      refine s_v (y_move rfl) ?_
      refine s_v (y_move rfl) ?_
      refine s_v (y_move rfl) ?_
      refine s_idx rfl rfl (hv.keep fun k hk _ => hBL.block k hk) (by omega) hsk u_sl_api_Secrets i_api_Secrets ?_
      rintro ad27 _ hF27 ⟨hl27, rfl⟩ hc27
      obtain ⟨x, y, z, rfl⟩ := three hl27
      refine s_v (y_loadA rfl (fun _ e => e ▸ hc27) u_api_Secrets i_api_Secrets rfl) ?_
      refine s_v (y_move rfl) ?_
      refine s_call rfl cl_ref12_Tell (ref12_Tell_ok _ _ _ _ ((nilSl (F := F) (w := w) hdd0).keep fun k hk _ => hBL.block k hk)) ?_
      rintro _ w30 ⟨rfl, hx30⟩
      refine ⟨_, rfl, ?_⟩
      refine s_alloc i_api_Public ?_
      intro g9 w9 hgB9 hx9 hk9
      have hgb9 := hgB9
      replace hgB9 := Nat.le_trans (Below.ext hBL hx30 hBL.size).size hgB9
      have hB9 : Below w.heap.size w w9 := (Below.ext (Below.ext hBL hx30 hBL.size) hx9 (Below.ext hBL hx30 hBL.size).size)
      refine s_store rfl rfl hk9 i_api_Public rfl (Nat.le_of_ble_eq_true rfl) rfl ?_
      intro w9_8 hg9_8 hk9_8
      have hb9_8 : Below w.heap.size w9 w9_8 := (Below.refl _ _).grown hg9_8 hB9.size (fun k hk => by cases hk; exact hgB9)
      replace hk9_8 : Blk w9_8 g9 ty_api_Public ((tellS (chainF L ds k).2 x y z dd).map u64v) := hk9_8
      refine G_nil ?_
      refine C_seq ?_
      refine C_region ?_
      refine s_v (y_move rfl) ?_
      refine s_v (y_loadA rfl (fun _ e => e ▸ (hk9_8.at_ _)) u_api_Public i_api_Public rfl) ?_
      refine s_lit (K := KPub) (F := F) (xs := [tellS (chainF L ds k).2 x y z dd]) rfl rfl rfl rfl u_sl_api_Public i_api_Public rfl (by decide) (by decide) (by simp [Value.cells, KPub, Kd.farr, tellS]) (Kd.Els.agg ⟨rfl, rfl⟩) ?_
      intro v33 w33 h33 hx33
      have hB33 : Below w.heap.size w w33 := (Below.ext (Below.trans hB9 hb9_8) hx33 (Below.trans hB9 hb9_8).size)
      refine s_append (K := KPub) rfl rfl ((((hu.ext hx30).ext hx9).kn flat_KPub hg9_8 (Kd.Own.nef hu (by have h3 := hx30.size; omega))).ext hx33) ((h33.lower (Below.trans hB9 hb9_8).size).sl (fun k hk => hF k hk)) u_sl_api_Public i_api_Public rfl flat_KPub (by rw [chainF_len]; simp [maxLen]; omega) (by rw [chainF_len]; simp; omega) hB33.size ?_
      intro v34 w34 h34 hg34 hb34
      refine s_v (y_assign rfl) ?_
      refine G_nil ?_
      refine C_region ?_
      refine s_v (y_fieldB rfl u_api_Public rfl i_uint64) ?_
      refine s_v (y_load rfl (fun _ e => e ▸ (((hk9_8.ext hx33).kn hg34 (Kd.Own.nef hu (by have h3 := hx30.size; omega))).at_ _)) u_uint64) ?_
      refine s_v (y_assign rfl) ?_
      refine G_nil ?_
      refine C_region ?_
      refine s_v (y_move rfl) ?_
      refine s_v (y_bin rfl rfl (fun _ => v_add (by omega))) ?_
      refine s_v (y_assign rfl) ?_
      refine G_nil ?_
      have hst := chain_step hsk hdd
      refine ⟨(k + 1, v34), .cons rfl (.cons rfl (.cons rfl (.cons (by rw [hst]; rfl) (.cons rfl .nil)))), ⟨by omega, ?_, (Below.trans hB33 hb34)⟩, by simp only []; omega⟩
      rw [hst]
      exact h34
  · skip
    obtain rfl : k = L.length := by omega
    refine C_exit ?_
    refine C_seq ?_
    refine C_region ?_
    refine s_v (y_move rfl) ?_
    refine s_v (y_assign rfl) ?_
    refine G_nil ?_
    refine C_ret ?_
    exact ⟨_, (.tmp rfl .nil), _, rfl, hu, hBL⟩
end Go.Proofs.YtdaphjnenookiaaDoor
