/- What a proof of knowledge, its challenge and its check compute. -/
import Derived.Test.YtdaphjnenookiaaDoorProg
import Derived.Test.YtdaphjnenookiaaDoorNm
import Derived.Test.YtdaphjnenookiaaDoorwords
import Derived.Test.YtdaphjnenookiaaDoorsha
import Derived.Test.YtdaphjnenookiaaDoorrsha
import Derived.Test.YtdaphjnenookiaaDoorscal
import Derived.Test.YtdaphjnenookiaaDoorgrp
namespace Go.Proofs.YtdaphjnenookiaaDoor
open Go Go.RowKit Go.Proofs
set_option linter.unusedVariables false
set_option linter.unusedSimpArgs false
set_option maxRecDepth 4000


/-- The challenge over numbers. -/
def challengeS (nm : List UInt8) (l : List UInt64) : UInt64 := ofN (shaS (partsS (nm :: l.map be64)))
def knowW : List UInt8 := [107, 110, 111, 119]
def answerS (c secret draw : UInt64) : UInt64 := subN draw (mulN c secret)
def backP (g x c s : UInt64) : UInt64 := mulP (timesP g s) (timesP x c)
def knowC (g x draw : UInt64) : UInt64 := challengeS knowW [g, x, timesP g draw]
def checkS (g x c s : UInt64) : Bool := inG g && (inG x && ((decide (c < 2305843009213693950) && decide (s < 2305843009213693950)) && decide (challengeS knowW [g, x, backP g x c s] = c)))
theorem timesP_lt (x y : UInt64) : (timesP x y).toNat < gP := by
  unfold timesP
  cases inG x
  · exact (by decide : (0 : Nat) < gP)
  · show (powP x y).toNat < gP
    rw [powP_nat]; exact modP_lt _
theorem inG_or {a : UInt64} (h : a.toNat < gP) : a = 0 ∨ inG a = true := by
  by_cases h0 : a = 0
  · exact .inl h0
  · refine .inr ?_
    have h1 : 0 < a := by
      rw [UInt64.lt_iff_toNat_lt]
      have : a.toNat ≠ 0 := fun hx => h0 (u64_eq hx)
      show 0 < a.toNat
      omega
    have h2 : a < 2305843009213693951 := UInt64.lt_iff_toNat_lt.2 h
    simp [inG, h1, h2]
theorem mulP_zero (b : UInt64) : mulP 0 b = 0 := by
  apply u64_eq
  rw [mulP_nat]
  show 0 * _ % _ = 0
  rw [Nat.zero_mul]; rfl
theorem mulP_zero' (b : UInt64) : mulP b 0 = 0 := by
  apply u64_eq
  rw [mulP_nat]
  show _ * 0 % _ = 0
  rw [Nat.mul_zero]; rfl
theorem mulP_one {a : UInt64} (h : a.toNat < gP) : mulP 1 a = a := by
  apply u64_eq
  rw [mulP_nat]
  show 1 * _ % _ = _
  rw [Nat.one_mul, Nat.mod_eq_of_lt h]
theorem prod_two {a b : UInt64} (ha : a.toNat < gP) (hb : b.toNat < gP) : prodP [a, b] 1 = mulP a b := by
  unfold prodP
  rcases inG_or ha with h | h
  · subst h
    rw [show inG 0 = false from by decide, mulP_zero]; rfl
  · rw [h]
    unfold prodP
    rw [mulP_one ha]
    rcases inG_or hb with k | k
    · subst k
      rw [show inG 0 = false from by decide, mulP_zero']; rfl
    · rw [k]; rfl
theorem back_prod (g x c s : UInt64) : prodP [timesP g s, timesP x c] 1 = backP g x c s := prod_two (timesP_lt _ _) (timesP_lt _ _)
theorem parts_len (nm : List UInt8) (l : List UInt64) : (partsS (nm :: l.map be64)).length = 8 + nm.length + 16 * l.length := by
  unfold partsS
  rw [List.flatMap_cons, List.length_append, List.length_append, be64_len]
  have : ∀ l : List UInt64, ((l.map be64).flatMap fun x => be64 (UInt64.ofNat x.length) ++ x).length = 16 * l.length := by
    intro l
    induction l with
    | nil => rfl
    | cons y l ih => rw [List.map_cons, List.flatMap_cons, List.length_append, List.length_append, be64_len, be64_len, ih, List.length_cons]; omega
  rw [this]
theorem map_snoc {α β : Type} (f : α → β) (l : List α) (k : Nat) (x : α) (h : l[k]? = some x) : (l.take (k + 1)).map f = (l.take k).map f ++ [f x] := by
  rw [take_snoc l k x h, List.map_append]; rfl

theorem proof_Challenge_ok {F : Nat → Prop} {w : World} {v : Value} {l : List UInt64} (nm : ByteArray) (hn : nm.size ≤ 1000) (hv : Kd.u64.Sl F w v l) (hl : l.length ≤ 2 ^ 30) :
    Calls Pr N_proof_Challenge #[.string nm, v] w fun e w' => e = .returned (u64v (challengeS nm.data.toList l)) ∧ Ext w w' := by
  suffices H : ∀ F : Nat → Prop, (∀ k, w.heap.size ≤ k → F k) → Kd.u64.Sl F w v l → Calls Pr N_proof_Challenge #[.string nm, v] w fun e w' => e = .returned (u64v (challengeS nm.data.toList l)) ∧ Ext w w' from H (fun _ => True) (fun _ _ => trivial) (hv.mono fun _ _ _ => trivial)
  clear hv F
  intro F hF hv
  have hnl : nm.data.toList.length = nm.size := Array.length_toList
  refine calls (args := [.string nm, v]) fn_proof_Challenge rfl rfl rfl rfl ?_
  refine C_seq ?_
  refine C_region ?_
  refine s_v (y_assign (v := u64v 0) rfl) ?_
  refine G_nil ?_
  refine C_seq ?_
  refine C_region ?_
  refine s_v (y_move rfl) ?_
  refine s_cvBytes rfl u_string u_sl_uint8 u_uint8 (by simp only [maxLen]; omega) ?_
  intro v10 w10 h10 hx10
  refine s_litTB (K := (Kd.slice Kd.u8)) (T := ty_uint8) (xs := [nm.data.toList]) rfl rfl rfl rfl u_sl_sl_uint8 i_sl_uint8 rfl (by decide) (by decide) (fun q hq => by rw [List.mem_singleton.1 hq]; exact Kd.Sl.csz h10) (Kd.Sl.el h10) ?_
  intro v11 w11 h11 hx11
  refine s_v (y_assign rfl) ?_
  refine G_nil ?_
  refine C_seq ?_
  refine C_seq ?_
  refine C_region ?_
  refine s_v (y_move rfl) ?_
  refine s_v (y_len rfl hv u_sl_uint64) ?_
  refine s_v (y_move rfl) ?_
  refine G_nil ?_
  refine C_block ?_
  refine C_loop (α := Nat × Value) (fun (k, u) => [(5, u), (12, v), (13, iv (l.length : Int)), (14, iv (k : Int))]) (fun (k, u) w' => k ≤ l.length ∧ (Kd.slice Kd.u8).Own (TB w' ty_uint8) w.heap.size ty_sl_uint8 w' u (nm.data.toList :: (l.take k).map be64) ∧ Below w.heap.size w w') (fun (k, u) => l.length - k) (0, v11) (.cons rfl (.cons rfl (.cons rfl (.cons rfl (.nil))))) ⟨Nat.zero_le _, (h11.lower hx10.size), (Below.ext hx10 hx11 hx10.size)⟩ ?_
  rintro ⟨k, u⟩ wL0 ⟨hk, hu, hBL⟩
  refine C_seq ?_
  refine C_region ?_
  refine s_v (y_bin rfl rfl (fun _ => v_lss)) ?_
  refine G_nil ?_
  refine C_seq ?_
  refine C_if rfl (fun hc15 => ?_) (fun hc15 => ?_)
  · skip
    replace hk : k < l.length := by omega
    obtain ⟨y, hyk⟩ : ∃ y, l[k]? = some y := ⟨_, List.getElem?_eq_getElem (by omega)⟩
    refine C_skip ?_
    refine C_seq ?_
    refine C_block ?_
    refine C_seq ?_
    refine C_region ?_
    refine s_idx rfl rfl (hv.keep fun k hk _ => hBL.block k hk) (by omega) hyk u_sl_uint64 i_uint64 ?_
    rintro ad16 _ hF16 rfl hc16
    refine s_v (y_load rfl (fun _ e => e ▸ hc16) u_uint64) ?_
    refine s_v (y_assign rfl) ?_
    refine G_nil ?_
    refine C_region ?_
    refine s_v (y_move rfl) ?_
    refine s_v (y_move rfl) ?_
    refine s_call rfl cl_group_Bytes (group_Bytes_ok _ (fun k hk => hF k (Nat.le_trans hBL.size hk))) ?_
    rintro _ w20 ⟨v20, rfl, h20, hx20⟩
    refine ⟨_, rfl, ?_⟩
    have hO20 := h20
    replace h20 := h20.lower hBL.size
    refine s_litTB (K := (Kd.slice Kd.u8)) (T := ty_uint8) (xs := [be64 y]) rfl rfl rfl rfl u_sl_sl_uint8 i_sl_uint8 rfl (by decide) (by decide) (fun q hq => by rw [List.mem_singleton.1 hq]; exact Kd.Sl.csz (Kd.Own.tb flat_u8 h20)) (Kd.Sl.el (Kd.Own.tb flat_u8 h20)) ?_
    intro v21 w21 h21 hx21
    have hB21 : Below w.heap.size w w21 := (Below.ext (Below.ext hBL hx20 hBL.size) hx21 (Below.ext hBL hx20 hBL.size).size)
    refine s_appendTB (K := (Kd.slice Kd.u8)) rfl rfl (hu.tbx (hx20.trans hx21)) (Kd.Own.sw (h21.lower (Below.ext hBL hx20 hBL.size).size)) u_sl_sl_uint8 i_sl_uint8 rfl (by decide) (by simp [maxLen]; omega) (by simp; omega) hB21.size ?_
    intro v22 w22 h22 hg22 hb22
    refine s_v (y_assign rfl) ?_
    refine G_nil ?_
    refine C_region ?_
    refine s_v (y_bin rfl rfl (fun _ => v_add (by omega))) ?_
    refine s_v (y_move rfl) ?_
    refine G_nil ?_
    refine ⟨(k + 1, v22), .cons rfl (.cons rfl (.cons rfl (.cons rfl (.nil)))), ⟨by omega, ?_, (Below.trans hB21 hb22)⟩, by simp only []; omega⟩
    rw [map_snoc be64 l k y hyk]
    exact h22
  · skip
    obtain rfl : k = l.length := by omega
    rw [List.take_length] at hu
    refine C_exit ?_
    refine C_seq ?_
    refine C_region ?_
    refine s_v (y_move rfl) ?_
    refine s_call rfl cl_sha_Parts (sha_Parts_ok (F := fun _ => True) (fun _ _ => trivial) ((Kd.Own.mono hu (fun _ _ _ => trivial)).sl (fun _ _ => trivial)) (by rw [parts_len]; omega)) ?_
    rintro _ w25 ⟨rfl, hx25⟩
    refine ⟨_, rfl, ?_⟩
    refine s_alloc i_api_Key ?_
    intro g8 w8 hgB8 hx8 hk8
    have hgb8 := hgB8
    replace hgB8 := Nat.le_trans (Below.ext hBL hx25 hBL.size).size hgB8
    have hB8 : Below w.heap.size w w8 := (Below.ext (Below.ext hBL hx25 hBL.size) hx8 (Below.ext hBL hx25 hBL.size).size)
    refine s_store rfl rfl hk8 i_api_Key (by simp [Value.cells, shaS_len]) (Nat.le_of_ble_eq_true rfl) (one_map (fun _ => rfl) _) ?_
    intro w7_3 hg7_3 hk7_3
    have hb7_3 : Below w.heap.size w8 w7_3 := (Below.refl _ _).grown hg7_3 hB8.size (fun k hk => by cases hk; exact hgB8)
    replace hk7_3 := hk7_3.whole (es := (shaS (partsS (nm.data.toList :: l.map be64))).map u8v) rfl (by simp [Value.cells])
    refine G_nil ?_
    refine C_seq ?_
    refine C_region ?_
    refine s_v (y_sliceB rfl u_api_Key i_uint8) ?_
    refine s_call rfl cl_scalar_Of (scalar_Of_ok (F := fun _ => True) (Kd.Sl.ofCells (K := Kd.u8) (hk7_3.at_ 0) (Kd.Els.map _) (by rw [shaS_len]) (by decide) trivial)) ?_
    rintro _ w27 ⟨rfl, hx27⟩
    refine ⟨_, rfl, ?_⟩
    have hB27 : Below w.heap.size w w27 := (Below.ext (Below.trans hB8 hb7_3) hx27 (Below.trans hB8 hb7_3).size)
    refine s_v (y_assign rfl) ?_
    refine G_nil ?_
    refine C_ret ?_
    exact ⟨_, (.tmp rfl .nil), rfl, hB27⟩

theorem ref1_Challenge_ok {F : Nat → Prop} {w : World} {v : Value} {l : List UInt64} (nm : ByteArray) (hn : nm.size ≤ 1000) (hv : Kd.u64.Sl F w v l) (hl : l.length ≤ 2 ^ 30) :
    Calls Pr N_ref1_Challenge #[.string nm, v] w fun e w' => e = .returned (u64v (challengeS nm.data.toList l)) ∧ Ext w w' := by
  suffices H : ∀ F : Nat → Prop, (∀ k, w.heap.size ≤ k → F k) → Kd.u64.Sl F w v l → Calls Pr N_ref1_Challenge #[.string nm, v] w fun e w' => e = .returned (u64v (challengeS nm.data.toList l)) ∧ Ext w w' from H (fun _ => True) (fun _ _ => trivial) (hv.mono fun _ _ _ => trivial)
  clear hv F
  intro F hF hv
  have hnl : nm.data.toList.length = nm.size := Array.length_toList
  refine calls (args := [.string nm, v]) fn_ref1_Challenge rfl rfl rfl rfl ?_
  refine C_seq ?_
  refine C_region ?_
  refine s_v (y_assign (v := u64v 0) rfl) ?_
  refine G_nil ?_
  refine C_seq ?_
  refine C_region ?_
  refine s_v (y_move rfl) ?_
  refine s_cvBytes rfl u_string u_sl_uint8 u_uint8 (by simp only [maxLen]; omega) ?_
  intro v9 w9 h9 hx9
  refine s_litTB (K := (Kd.slice Kd.u8)) (T := ty_uint8) (xs := [nm.data.toList]) rfl rfl rfl rfl u_sl_sl_uint8 i_sl_uint8 rfl (by decide) (by decide) (fun q hq => by rw [List.mem_singleton.1 hq]; exact Kd.Sl.csz h9) (Kd.Sl.el h9) ?_
  intro v10 w10 h10 hx10
  refine s_v (y_assign rfl) ?_
  refine G_nil ?_
  refine C_seq ?_
  refine C_seq ?_
  refine C_region ?_
  refine s_v (y_assign rfl) ?_
  refine G_nil ?_
  refine C_block ?_
  refine C_loop (α := Nat × Value) (fun (k, u) => [(1, v), (5, u), (6, iv (k : Int))]) (fun (k, u) w' => k ≤ l.length ∧ (Kd.slice Kd.u8).Own (TB w' ty_uint8) w.heap.size ty_sl_uint8 w' u (nm.data.toList :: (l.take k).map be64) ∧ Below w.heap.size w w') (fun (k, u) => l.length - k) (0, v10) (.cons rfl (.cons rfl (.cons rfl (.nil)))) ⟨Nat.zero_le _, (h10.lower hx9.size), (Below.ext hx9 hx10 hx9.size)⟩ ?_
  rintro ⟨k, u⟩ wL0 ⟨hk, hu, hBL⟩
  refine C_seq ?_
  refine C_seq ?_
  refine C_region ?_
  refine s_v (y_move rfl) ?_
  refine s_v (y_move rfl) ?_
  refine s_v (y_len rfl hv u_sl_uint64) ?_
  refine s_v (y_bin rfl rfl (fun _ => v_lss)) ?_
  refine G_nil ?_
  refine C_if rfl (fun hc14 => ?_) (fun hc14 => ?_)
  · skip
    replace hk : k < l.length := by omega
    obtain ⟨y, hyk⟩ : ∃ y, l[k]? = some y := ⟨_, List.getElem?_eq_getElem (by omega)⟩
    refine C_skip ?_
    refine C_seq ?_
    refine C_block ?_
    refine C_region ?_
    refine s_v (y_move rfl) ?_
    refine s_v (y_move rfl) ?_
    refine s_v (y_move rfl) ?_
    refine s_idx rfl rfl (hv.keep fun k hk _ => hBL.block k hk) (by omega) hyk u_sl_uint64 i_uint64 ?_
    rintro ad20 _ hF20 rfl hc20
    refine s_v (y_load rfl (fun _ e => e ▸ hc20) u_uint64) ?_
    refine s_call rfl cl_ref1_Bytes (ref1_Bytes_ok _ (fun k hk => hF k (Nat.le_trans hBL.size hk))) ?_
    rintro _ w22 ⟨v22, rfl, h22, hx22⟩
    refine ⟨_, rfl, ?_⟩
    have hO22 := h22
    replace h22 := h22.lower hBL.size
    refine s_litTB (K := (Kd.slice Kd.u8)) (T := ty_uint8) (xs := [be64 y]) rfl rfl rfl rfl u_sl_sl_uint8 i_sl_uint8 rfl (by decide) (by decide) (fun q hq => by rw [List.mem_singleton.1 hq]; exact Kd.Sl.csz (Kd.Own.tb flat_u8 h22)) (Kd.Sl.el (Kd.Own.tb flat_u8 h22)) ?_
    intro v23 w23 h23 hx23
    have hB23 : Below w.heap.size w w23 := (Below.ext (Below.ext hBL hx22 hBL.size) hx23 (Below.ext hBL hx22 hBL.size).size)
    refine s_appendTB (K := (Kd.slice Kd.u8)) rfl rfl (hu.tbx (hx22.trans hx23)) (Kd.Own.sw (h23.lower (Below.ext hBL hx22 hBL.size).size)) u_sl_sl_uint8 i_sl_uint8 rfl (by decide) (by simp [maxLen]; omega) (by simp; omega) hB23.size ?_
    intro v24 w24 h24 hg24 hb24
    refine s_v (y_assign rfl) ?_
    refine G_nil ?_
    refine C_region ?_
    refine s_v (y_move rfl) ?_
    refine s_v (y_bin rfl rfl (fun _ => v_add (by omega))) ?_
    refine s_v (y_assign rfl) ?_
    refine G_nil ?_
    refine ⟨(k + 1, v24), .cons rfl (.cons rfl (.cons rfl (.nil))), ⟨by omega, ?_, (Below.trans hB23 hb24)⟩, by simp only []; omega⟩
    rw [map_snoc be64 l k y hyk]
    exact h24
  · skip
    obtain rfl : k = l.length := by omega
    rw [List.take_length] at hu
    refine C_exit ?_
    refine C_seq ?_
    refine C_region ?_
    refine s_v (y_move rfl) ?_
    refine s_call rfl cl_ref1_Parts (ref1_Parts_ok (F := fun _ => True) (fun _ _ => trivial) ((Kd.Own.mono hu (fun _ _ _ => trivial)).sl (fun _ _ => trivial)) (by rw [parts_len]; omega)) ?_
    rintro _ w26 ⟨rfl, hx26⟩
    refine ⟨_, rfl, ?_⟩
    refine s_alloc i_api_Key ?_
    intro g7 w7 hgB7 hx7 hk7
    have hgb7 := hgB7
    replace hgB7 := Nat.le_trans (Below.ext hBL hx26 hBL.size).size hgB7
    have hB7 : Below w.heap.size w w7 := (Below.ext (Below.ext hBL hx26 hBL.size) hx7 (Below.ext hBL hx26 hBL.size).size)
    refine s_store rfl rfl hk7 i_api_Key (by simp [Value.cells, shaS_len]) (Nat.le_of_ble_eq_true rfl) (one_map (fun _ => rfl) _) ?_
    intro w6_3 hg6_3 hk6_3
    have hb6_3 : Below w.heap.size w7 w6_3 := (Below.refl _ _).grown hg6_3 hB7.size (fun k hk => by cases hk; exact hgB7)
    replace hk6_3 := hk6_3.whole (es := (shaS (partsS (nm.data.toList :: l.map be64))).map u8v) rfl (by simp [Value.cells])
    refine G_nil ?_
    refine C_seq ?_
    refine C_region ?_
    refine s_v (y_sliceB rfl u_api_Key i_uint8) ?_
    refine s_call rfl cl_ref1_OfN (ref1_OfN_ok (F := fun _ => True) (Kd.Sl.ofCells (K := Kd.u8) (hk6_3.at_ 0) (Kd.Els.map _) (by rw [shaS_len]) (by decide) trivial)) ?_
    rintro _ w28 ⟨rfl, hx28⟩
    refine ⟨_, rfl, ?_⟩
    have hB28 : Below w.heap.size w w28 := (Below.ext (Below.trans hB7 hb6_3) hx28 (Below.trans hB7 hb6_3).size)
    refine s_v (y_assign rfl) ?_
    refine G_nil ?_
    refine C_ret ?_
    exact ⟨_, (.tmp rfl .nil), rfl, hB28⟩

theorem proof_Answer_ok {w : World} (a b c : UInt64) :
    Calls Pr N_proof_Answer #[u64v a, u64v b, u64v c] w fun e w' => e = .returned (u64v (answerS a b c)) ∧ Ext w w' := by
  refine calls (args := [u64v a, u64v b, u64v c]) fn_proof_Answer rfl rfl rfl rfl ?_
  refine C_seq ?_
  refine C_region ?_
  refine s_v (y_assign (v := u64v 0) rfl) ?_
  refine G_nil ?_
  refine C_seq ?_
  refine C_region ?_
  refine s_v (y_move rfl) ?_
  refine s_v (y_move rfl) ?_
  refine s_v (y_move rfl) ?_
  refine s_call rfl cl_scalar_Mul (scalar_Mul_ok _ _) ?_
  rintro _ w10 ⟨rfl, hx10⟩
  refine ⟨_, rfl, ?_⟩
  refine s_call rfl cl_scalar_Sub (scalar_Sub_ok _ _) ?_
  rintro _ _ ⟨rfl, rfl⟩
  refine ⟨_, rfl, ?_⟩
  refine s_v (y_assign rfl) ?_
  refine G_nil ?_
  refine C_ret ?_
  exact ⟨_, (.tmp rfl .nil), rfl, hx10⟩

theorem ref1_answer_ok {w : World} (a b c : UInt64) :
    Calls Pr N_ref1_answer #[u64v a, u64v b, u64v c] w fun e w' => e = .returned (u64v (answerS b c a)) ∧ Ext w w' := by
  refine calls (args := [u64v a, u64v b, u64v c]) fn_ref1_answer rfl rfl rfl rfl ?_
  refine C_seq ?_
  refine C_region ?_
  refine s_v (y_assign (v := u64v 0) rfl) ?_
  refine G_nil ?_
  refine C_seq ?_
  refine C_region ?_
  refine s_v (y_move rfl) ?_
  refine s_v (y_move rfl) ?_
  refine s_v (y_move rfl) ?_
  refine s_call rfl cl_ref1_MulN (ref1_MulN_ok _ _) ?_
  rintro _ _ ⟨rfl, rfl⟩
  refine ⟨_, rfl, ?_⟩
  refine s_call rfl cl_ref1_SubN (ref1_SubN_ok _ _) ?_
  rintro _ _ ⟨rfl, rfl⟩
  refine ⟨_, rfl, ?_⟩
  refine s_v (y_assign rfl) ?_
  refine G_nil ?_
  refine C_ret ?_
  exact ⟨_, (.tmp rfl .nil), rfl, (Below.refl _ _)⟩

theorem proof_Right_ok {w : World} (c s : UInt64) :
    Calls Pr N_proof_Right #[.agg #[u64v c, u64v s]] w fun e w' => e = .returned (.bool (decide (c < 2305843009213693950) && decide (s < 2305843009213693950))) ∧ Ext w w' := by
  refine calls (args := [.agg #[u64v c, u64v s]]) fn_proof_Right rfl rfl rfl rfl ?_
  refine C_seq ?_
  refine C_region ?_
  refine s_box rfl ?_
  intro g1 w1 hgB1 hx1 hk1
  have hgb1 := hgB1
  refine s_v (y_assign rfl) ?_
  refine G_nil ?_
  refine C_seq ?_
  refine C_region ?_
  refine s_v (y_fieldB rfl u_api_Proof rfl i_uint64) ?_
  refine s_v (y_load rfl (fun _ e => e ▸ (hk1.at_ _)) u_uint64) ?_
  refine s_v (y_bin rfl rfl (fun _ => v_lss64 _ 2305843009213693950)) ?_
  refine s_v (y_move rfl) ?_
  refine G_case 6 rfl (fun hg6 => ?_) (fun hg6 => ?_)
  · skip
    try replace hg6 := of_decide_eq_true hg6
    refine s_yes rfl rfl rfl ?_
    refine s_v (y_fieldB rfl u_api_Proof rfl i_uint64) ?_
    refine s_yes rfl rfl rfl ?_
    refine s_v (y_load rfl (fun _ e => e ▸ (hk1.at_ _)) u_uint64) ?_
    refine s_yes rfl rfl rfl ?_
    refine s_v (y_bin rfl rfl (fun _ => v_lss64 _ 2305843009213693950)) ?_
    refine s_v (y_pick rfl rfl) ?_
    refine s_v (y_assign rfl) ?_
    refine G_nil ?_
    refine C_ret ?_
    refine ⟨_, (.tmp rfl .nil), ?_, hx1⟩
    simp [retV, *]
  · skip
    try replace hg6 := of_decide_eq_false hg6
    refine s_not rfl rfl rfl ?_
    refine s_not rfl rfl rfl ?_
    refine s_not rfl rfl rfl ?_
    refine s_v (y_pick rfl rfl) ?_
    refine s_v (y_assign rfl) ?_
    refine G_nil ?_
    refine C_ret ?_
    refine ⟨_, (.tmp rfl .nil), ?_, hx1⟩
    simp [retV, *]

theorem ref1_small_ok {w : World} (c s : UInt64) :
    Calls Pr N_ref1_small #[.agg #[u64v c, u64v s]] w fun e w' => e = .returned (.bool (decide (c < 2305843009213693950) && decide (s < 2305843009213693950))) ∧ Ext w w' := by
  refine calls (args := [.agg #[u64v c, u64v s]]) fn_ref1_small rfl rfl rfl rfl ?_
  refine C_seq ?_
  refine C_region ?_
  refine s_box rfl ?_
  intro g1 w1 hgB1 hx1 hk1
  have hgb1 := hgB1
  refine s_v (y_assign rfl) ?_
  refine G_nil ?_
  refine C_seq ?_
  refine C_region ?_
  refine s_v (y_fieldB rfl u_api_Proof rfl i_uint64) ?_
  refine s_v (y_load rfl (fun _ e => e ▸ (hk1.at_ _)) u_uint64) ?_
  refine s_v (y_bin rfl rfl (fun _ => v_lss64 _ 2305843009213693950)) ?_
  refine s_v (y_move rfl) ?_
  refine G_case 6 rfl (fun hg6 => ?_) (fun hg6 => ?_)
  · skip
    try replace hg6 := of_decide_eq_true hg6
    refine s_yes rfl rfl rfl ?_
    refine s_v (y_fieldB rfl u_api_Proof rfl i_uint64) ?_
    refine s_yes rfl rfl rfl ?_
    refine s_v (y_load rfl (fun _ e => e ▸ (hk1.at_ _)) u_uint64) ?_
    refine s_yes rfl rfl rfl ?_
    refine s_v (y_bin rfl rfl (fun _ => v_lss64 _ 2305843009213693950)) ?_
    refine s_v (y_pick rfl rfl) ?_
    refine s_v (y_assign rfl) ?_
    refine G_nil ?_
    refine C_ret ?_
    refine ⟨_, (.tmp rfl .nil), ?_, hx1⟩
    simp [retV, *]
  · skip
    try replace hg6 := of_decide_eq_false hg6
    refine s_not rfl rfl rfl ?_
    refine s_not rfl rfl rfl ?_
    refine s_not rfl rfl rfl ?_
    refine s_v (y_pick rfl rfl) ?_
    refine s_v (y_assign rfl) ?_
    refine G_nil ?_
    refine C_ret ?_
    refine ⟨_, (.tmp rfl .nil), ?_, hx1⟩
    simp [retV, *]

theorem proof_Back_ok {w : World} (g x c s : UInt64) :
    Calls Pr N_proof_Back #[u64v g, u64v x, .agg #[u64v c, u64v s]] w fun e w' => e = .returned (u64v (backP g x c s)) ∧ Ext w w' := by
  obtain ⟨F, hF⟩ : ∃ F : Nat → Prop, ∀ k, w.heap.size ≤ k → F k := ⟨fun _ => True, fun _ _ => trivial⟩
  refine calls (args := [u64v g, u64v x, .agg #[u64v c, u64v s]]) fn_proof_Back rfl rfl rfl rfl ?_
  refine C_seq ?_
  refine C_region ?_
  refine s_box rfl ?_
  intro g5 w5 hgB5 hx5 hk5
  have hgb5 := hgB5
  refine s_v (y_assign (v := u64v 0) rfl) ?_
  refine G_nil ?_
  refine C_seq ?_
  refine C_draw (S := fun w' => Ext w5.drew w') rfl rfl ?_
  refine A_take 0 rfl (y_move rfl) (Ext.refl _) (fun _ _ _ h => h) ?_
  refine A_take 1 rfl (y_fieldB rfl u_api_Proof rfl i_uint64) (Ext.refl _) (fun _ _ _ h => h) ?_
  refine A_take 2 rfl (y_load rfl (fun _ e => (((hk5.ext (Ext.drew w5)).at_ _)).ext e) u_uint64) (Ext.refl _) (fun _ _ _ h => h) ?_
  refine A_take 4 rfl (y_move rfl) (Ext.refl _) (fun _ _ _ h => h) ?_
  refine A_take 5 rfl (y_fieldB rfl u_api_Proof rfl i_uint64) (Ext.refl _) (fun _ _ _ h => h) ?_
  refine A_take 6 rfl (y_load rfl (fun _ e => (((hk5.ext (Ext.drew w5)).at_ _)).ext e) u_uint64) (Ext.refl _) (fun _ _ _ h => h) ?_
  refine A_act 3 rfl ?_
  refine s_call rfl cl_group_Times (group_Times_ok _ _) ?_
  rintro _ _ ⟨rfl, rfl⟩
  refine ⟨_, rfl, ?_⟩
  refine G_nil ⟨(Ext.refl _), ?_⟩
  refine A_act 7 rfl ?_
  refine s_call rfl cl_group_Times (group_Times_ok _ _) ?_
  rintro _ _ ⟨rfl, rfl⟩
  refine ⟨_, rfl, ?_⟩
  refine G_nil ⟨(Ext.refl _), ?_⟩
  refine A_act 8 rfl ?_
  refine s_lit (K := Kd.u64) (F := F) (xs := [timesP g s, timesP x c]) rfl rfl rfl rfl u_sl_uint64 i_uint64 rfl (by decide) (by decide) (by simp [Value.cells, Kd.u64, Kd.flat]) (Kd.Els.lits rfl) ?_
  intro v15 w15 h15 hx15
  have hB15 : Below w.heap.size w w15 := (Below.ext (Below.ext hx5 (Ext.drew w5) hx5.size) hx15 (Below.ext hx5 (Ext.drew w5) hx5.size).size)
  refine G_nil ⟨hx15, ?_⟩
  refine A_act 9 rfl ?_
  refine s_call rfl cl_group_Product (group_Product_ok ((h15.lower (Below.ext hx5 (Ext.drew w5) hx5.size).size).sl (fun k hk => hF k hk))) ?_
  rintro _ _ ⟨rfl, rfl⟩
  refine ⟨_, rfl, ?_⟩
  refine G_nil ⟨hx15, ?_⟩
  refine A_take 10 rfl (y_assign rfl) hx15 (fun _ _ _ h => h) ?_
  refine A_done ?_
  refine C_ret ?_
  refine ⟨_, (.tmp rfl .nil), ?_, hB15⟩
  rw [back_prod]
  rfl

theorem ref1_back_ok {w : World} (g x c s : UInt64) :
    Calls Pr N_ref1_back #[u64v g, u64v x, .agg #[u64v c, u64v s]] w fun e w' => e = .returned (u64v (backP g x c s)) ∧ Ext w w' := by
  refine calls (args := [u64v g, u64v x, .agg #[u64v c, u64v s]]) fn_ref1_back rfl rfl rfl rfl ?_
  refine C_seq ?_
  refine C_region ?_
  refine s_box rfl ?_
  intro g5 w5 hgB5 hx5 hk5
  have hgb5 := hgB5
  refine s_v (y_assign (v := u64v 0) rfl) ?_
  refine G_nil ?_
  refine C_seq ?_
  refine C_draw (S := fun w' => Ext w5.drew w') rfl rfl ?_
  refine A_take 0 rfl (y_move rfl) (Ext.refl _) (fun _ _ _ h => h) ?_
  refine A_take 1 rfl (y_fieldB rfl u_api_Proof rfl i_uint64) (Ext.refl _) (fun _ _ _ h => h) ?_
  refine A_take 2 rfl (y_load rfl (fun _ e => (((hk5.ext (Ext.drew w5)).at_ _)).ext e) u_uint64) (Ext.refl _) (fun _ _ _ h => h) ?_
  refine A_take 4 rfl (y_move rfl) (Ext.refl _) (fun _ _ _ h => h) ?_
  refine A_take 5 rfl (y_fieldB rfl u_api_Proof rfl i_uint64) (Ext.refl _) (fun _ _ _ h => h) ?_
  refine A_take 6 rfl (y_load rfl (fun _ e => (((hk5.ext (Ext.drew w5)).at_ _)).ext e) u_uint64) (Ext.refl _) (fun _ _ _ h => h) ?_
  refine A_act 3 rfl ?_
  refine s_call rfl cl_ref1_Times (ref1_Times_ok _ _) ?_
  rintro _ _ ⟨rfl, rfl⟩
  refine ⟨_, rfl, ?_⟩
  refine G_nil ⟨(Ext.refl _), ?_⟩
  refine A_act 7 rfl ?_
  refine s_call rfl cl_ref1_Times (ref1_Times_ok _ _) ?_
  rintro _ _ ⟨rfl, rfl⟩
  refine ⟨_, rfl, ?_⟩
  refine G_nil ⟨(Ext.refl _), ?_⟩
  refine A_act 8 rfl ?_
  refine s_call rfl cl_ref1_MulP (ref1_MulP_ok _ _) ?_
  rintro _ _ ⟨rfl, rfl⟩
  refine ⟨_, rfl, ?_⟩
  refine G_nil ⟨(Ext.refl _), ?_⟩
  refine A_take 9 rfl (y_assign rfl) (Ext.refl _) (fun _ _ _ h => h) ?_
  refine A_done ?_
  refine C_ret ?_
  exact ⟨_, (.tmp rfl .nil), rfl, (Below.ext hx5 (Ext.drew w5) hx5.size)⟩

theorem proof_CheckKnow_ok {w : World} (g x c s : UInt64) :
    Calls Pr N_proof_CheckKnow #[u64v g, u64v x, .agg #[u64v c, u64v s]] w fun e w' => e = .returned (.bool (checkS g x c s)) ∧ Ext w w' := by
  obtain ⟨F, hF⟩ : ∃ F : Nat → Prop, ∀ k, w.heap.size ≤ k → F k := ⟨fun _ => True, fun _ _ => trivial⟩
  refine calls (args := [u64v g, u64v x, .agg #[u64v c, u64v s]]) fn_proof_CheckKnow rfl rfl rfl rfl ?_
  refine C_seq ?_
  refine C_region ?_
  refine s_box rfl ?_
  intro g5 w5 hgB5 hx5 hk5
  have hgb5 := hgB5
  refine s_v (y_assign rfl) ?_
  refine G_nil ?_
  refine C_seq ?_
  refine C_draw (S := fun w' => Ext w5.drew w') rfl rfl ?_
  refine A_take 0 rfl (y_move rfl) (Ext.refl _) (fun _ _ _ h => h) ?_
  refine A_act 1 rfl ?_
  refine s_call rfl cl_group_Right (group_Right_ok _) ?_
  rintro _ _ ⟨rfl, rfl⟩
  refine ⟨_, rfl, ?_⟩
  refine G_nil ⟨(Ext.refl _), ?_⟩
  refine A_take 2 rfl (y_move rfl) (Ext.refl _) (fun _ _ _ h => h) ?_
  refine GA_case 9 rfl (fun hg9 => ?_) (fun hg9 => ?_)
  · skip
    try replace hg9 := of_decide_eq_true hg9
    refine A_takeG 3 rfl rfl rfl rfl rfl (y_move rfl) (Ext.refl _) (fun _ _ _ h => h) ?_
    refine A_act 4 rfl ?_
    refine s_yes rfl rfl rfl ?_
    refine s_call rfl cl_group_Right (group_Right_ok _) ?_
    rintro _ _ ⟨rfl, rfl⟩
    refine ⟨_, rfl, ?_⟩
    refine G_nil ⟨(Ext.refl _), ?_⟩
    refine A_take 5 rfl (y_pick rfl rfl) (Ext.refl _) (fun _ _ _ h => h) ?_
    refine A_take 6 rfl (y_move rfl) (Ext.refl _) (fun _ _ _ h => h) ?_
    refine GA_case 13 rfl (fun hg13 => ?_) (fun hg13 => ?_)
    · skip
      try replace hg13 := of_decide_eq_true hg13
      refine A_takeG 7 rfl rfl rfl rfl rfl (y_loadA rfl (fun _ e => (((hk5.ext (Ext.drew w5)).at_ _)).ext e) u_api_Proof i_api_Proof rfl) (Ext.refl _) (fun _ _ _ h => h) ?_
      refine A_act 8 rfl ?_
      refine s_yes rfl rfl rfl ?_
      refine s_call rfl cl_proof_Right (proof_Right_ok _ _) ?_
      rintro _ w15 ⟨rfl, hx15⟩
      refine ⟨_, rfl, ?_⟩
      have hB15 : Below w.heap.size w w15 := (Below.ext (Below.ext hx5 (Ext.drew w5) hx5.size) hx15 (Below.ext hx5 (Ext.drew w5) hx5.size).size)
      refine G_nil ⟨hx15, ?_⟩
      refine A_take 9 rfl (y_pick rfl rfl) hx15 (fun _ _ _ h => h) ?_
      refine A_take 10 rfl (y_move rfl) hx15 (fun _ _ _ h => h) ?_
      refine GA_case 17 rfl (fun hg17 => ?_) (fun hg17 => ?_)
      · skip
        try replace hg17 := of_decide_eq_true hg17
        refine A_takeG 11 rfl rfl rfl rfl rfl (y_move rfl) hx15 (fun _ _ _ h => h) ?_
        refine A_takeG 12 rfl rfl rfl rfl rfl (y_move rfl) hx15 (fun _ _ _ h => h) ?_
        refine A_takeG 13 rfl rfl rfl rfl rfl (y_move rfl) hx15 (fun _ _ _ h => h) ?_
        refine A_takeG 14 rfl rfl rfl rfl rfl (y_move rfl) hx15 (fun _ _ _ h => h) ?_
        refine A_takeG 15 rfl rfl rfl rfl rfl (y_loadA rfl (fun _ e => (((hk5.ext (Ext.drew w5)).at_ _)).ext e) u_api_Proof i_api_Proof rfl) hx15 (fun _ _ _ h => h) ?_
        refine A_takeG 19 rfl rfl rfl rfl rfl (y_fieldB rfl u_api_Proof rfl i_uint64) hx15 (fun _ _ _ h => h) ?_
        refine A_takeG 20 rfl rfl rfl rfl rfl (y_load rfl (fun _ e => (((hk5.ext (Ext.drew w5)).at_ _)).ext e) u_uint64) hx15 (fun _ _ _ h => h) ?_
        refine A_act 16 rfl ?_
        refine s_yes rfl rfl rfl ?_
        refine s_call rfl cl_proof_Back (proof_Back_ok _ _ _ _) ?_
        rintro _ w23 ⟨rfl, hx23⟩
        refine ⟨_, rfl, ?_⟩
        refine G_nil ⟨(hx15.trans hx23), ?_⟩
        refine A_act 17 rfl ?_
        refine s_yes rfl rfl rfl ?_
        refine s_lit (K := Kd.u64) (F := F) (xs := [g, x, backP g x c s]) rfl rfl rfl rfl u_sl_uint64 i_uint64 rfl (by decide) (by decide) (by simp [Value.cells, Kd.u64, Kd.flat]) (Kd.Els.lits rfl) ?_
        intro v24 w24 h24 hx24
        have hB24 : Below w.heap.size w w24 := (Below.ext (Below.ext hB15 hx23 hB15.size) hx24 (Below.ext hB15 hx23 hB15.size).size)
        refine G_nil ⟨((hx15.trans hx23).trans hx24), ?_⟩
        refine A_act 18 rfl ?_
        refine s_yes rfl rfl rfl ?_
        refine s_call rfl cl_proof_Challenge (proof_Challenge_ok ⟨#[107, 110, 111, 119]⟩ (by decide) ((h24.lower (Below.ext hB15 hx23 hB15.size).size).sl (fun k hk => hF k hk)) (by simp)) ?_
        rintro _ w25 ⟨rfl, hx25⟩
        refine ⟨_, rfl, ?_⟩
        refine G_nil ⟨(((hx15.trans hx23).trans hx24).trans hx25), ?_⟩
        refine A_takeG 21 rfl rfl rfl rfl rfl (y_bin rfl rfl (fun _ => v_eql64 _ _)) (((hx15.trans hx23).trans hx24).trans hx25) (fun _ _ _ h => h) ?_
        refine A_take 22 rfl (y_pick rfl rfl) (((hx15.trans hx23).trans hx24).trans hx25) (fun _ _ _ h => h) ?_
        refine A_take 23 rfl (y_assign rfl) (((hx15.trans hx23).trans hx24).trans hx25) (fun _ _ _ h => h) ?_
        refine A_done ?_
        refine C_ret ?_
        refine ⟨_, (.tmp rfl .nil), ?_, (Below.ext hB24 hx25 hB24.size)⟩
        unfold checkS
        simp only [*, retV, Bool.true_and, Bool.false_and]
        try rfl
      · skip
        try replace hg17 := of_decide_eq_false hg17
        refine A_not 11 rfl rfl rfl rfl rfl hx15 (fun _ _ _ h => h) ?_
        refine A_not 12 rfl rfl rfl rfl rfl hx15 (fun _ _ _ h => h) ?_
        refine A_not 13 rfl rfl rfl rfl rfl hx15 (fun _ _ _ h => h) ?_
        refine A_not 14 rfl rfl rfl rfl rfl hx15 (fun _ _ _ h => h) ?_
        refine A_not 15 rfl rfl rfl rfl rfl hx15 (fun _ _ _ h => h) ?_
        refine A_not 16 rfl rfl rfl rfl rfl hx15 (fun _ _ _ h => h) ?_
        refine A_not 17 rfl rfl rfl rfl rfl hx15 (fun _ _ _ h => h) ?_
        refine A_not 18 rfl rfl rfl rfl rfl hx15 (fun _ _ _ h => h) ?_
        refine A_not 19 rfl rfl rfl rfl rfl hx15 (fun _ _ _ h => h) ?_
        refine A_not 20 rfl rfl rfl rfl rfl hx15 (fun _ _ _ h => h) ?_
        refine A_not 21 rfl rfl rfl rfl rfl hx15 (fun _ _ _ h => h) ?_
        refine A_take 22 rfl (y_pick rfl rfl) hx15 (fun _ _ _ h => h) ?_
        refine A_take 23 rfl (y_assign rfl) hx15 (fun _ _ _ h => h) ?_
        refine A_done ?_
        refine C_ret ?_
        refine ⟨_, (.tmp rfl .nil), ?_, hB15⟩
        unfold checkS
        simp only [*, retV, Bool.true_and, Bool.false_and]
        try rfl
    · skip
      try replace hg13 := of_decide_eq_false hg13
      refine A_not 7 rfl rfl rfl rfl rfl (Ext.refl _) (fun _ _ _ h => h) ?_
      refine A_not 8 rfl rfl rfl rfl rfl (Ext.refl _) (fun _ _ _ h => h) ?_
      refine A_take 9 rfl (y_pick rfl rfl) (Ext.refl _) (fun _ _ _ h => h) ?_
      refine A_take 10 rfl (y_move rfl) (Ext.refl _) (fun _ _ _ h => h) ?_
      refine A_not 11 rfl rfl rfl rfl rfl (Ext.refl _) (fun _ _ _ h => h) ?_
      refine A_not 12 rfl rfl rfl rfl rfl (Ext.refl _) (fun _ _ _ h => h) ?_
      refine A_not 13 rfl rfl rfl rfl rfl (Ext.refl _) (fun _ _ _ h => h) ?_
      refine A_not 14 rfl rfl rfl rfl rfl (Ext.refl _) (fun _ _ _ h => h) ?_
      refine A_not 15 rfl rfl rfl rfl rfl (Ext.refl _) (fun _ _ _ h => h) ?_
      refine A_not 16 rfl rfl rfl rfl rfl (Ext.refl _) (fun _ _ _ h => h) ?_
      refine A_not 17 rfl rfl rfl rfl rfl (Ext.refl _) (fun _ _ _ h => h) ?_
      refine A_not 18 rfl rfl rfl rfl rfl (Ext.refl _) (fun _ _ _ h => h) ?_
      refine A_not 19 rfl rfl rfl rfl rfl (Ext.refl _) (fun _ _ _ h => h) ?_
      refine A_not 20 rfl rfl rfl rfl rfl (Ext.refl _) (fun _ _ _ h => h) ?_
      refine A_not 21 rfl rfl rfl rfl rfl (Ext.refl _) (fun _ _ _ h => h) ?_
      refine A_take 22 rfl (y_pick rfl rfl) (Ext.refl _) (fun _ _ _ h => h) ?_
      refine A_take 23 rfl (y_assign rfl) (Ext.refl _) (fun _ _ _ h => h) ?_
      refine A_done ?_
      refine C_ret ?_
      refine ⟨_, (.tmp rfl .nil), ?_, (Below.ext hx5 (Ext.drew w5) hx5.size)⟩
      unfold checkS
      simp only [*, retV, Bool.true_and, Bool.false_and]
      try rfl
  · skip
    try replace hg9 := of_decide_eq_false hg9
    refine A_not 3 rfl rfl rfl rfl rfl (Ext.refl _) (fun _ _ _ h => h) ?_
    refine A_not 4 rfl rfl rfl rfl rfl (Ext.refl _) (fun _ _ _ h => h) ?_
    refine A_take 5 rfl (y_pick rfl rfl) (Ext.refl _) (fun _ _ _ h => h) ?_
    refine A_take 6 rfl (y_move rfl) (Ext.refl _) (fun _ _ _ h => h) ?_
    refine A_not 7 rfl rfl rfl rfl rfl (Ext.refl _) (fun _ _ _ h => h) ?_
    refine A_not 8 rfl rfl rfl rfl rfl (Ext.refl _) (fun _ _ _ h => h) ?_
    refine A_take 9 rfl (y_pick rfl rfl) (Ext.refl _) (fun _ _ _ h => h) ?_
    refine A_take 10 rfl (y_move rfl) (Ext.refl _) (fun _ _ _ h => h) ?_
    refine A_not 11 rfl rfl rfl rfl rfl (Ext.refl _) (fun _ _ _ h => h) ?_
    refine A_not 12 rfl rfl rfl rfl rfl (Ext.refl _) (fun _ _ _ h => h) ?_
    refine A_not 13 rfl rfl rfl rfl rfl (Ext.refl _) (fun _ _ _ h => h) ?_
    refine A_not 14 rfl rfl rfl rfl rfl (Ext.refl _) (fun _ _ _ h => h) ?_
    refine A_not 15 rfl rfl rfl rfl rfl (Ext.refl _) (fun _ _ _ h => h) ?_
    refine A_not 16 rfl rfl rfl rfl rfl (Ext.refl _) (fun _ _ _ h => h) ?_
    refine A_not 17 rfl rfl rfl rfl rfl (Ext.refl _) (fun _ _ _ h => h) ?_
    refine A_not 18 rfl rfl rfl rfl rfl (Ext.refl _) (fun _ _ _ h => h) ?_
    refine A_not 19 rfl rfl rfl rfl rfl (Ext.refl _) (fun _ _ _ h => h) ?_
    refine A_not 20 rfl rfl rfl rfl rfl (Ext.refl _) (fun _ _ _ h => h) ?_
    refine A_not 21 rfl rfl rfl rfl rfl (Ext.refl _) (fun _ _ _ h => h) ?_
    refine A_take 22 rfl (y_pick rfl rfl) (Ext.refl _) (fun _ _ _ h => h) ?_
    refine A_take 23 rfl (y_assign rfl) (Ext.refl _) (fun _ _ _ h => h) ?_
    refine A_done ?_
    refine C_ret ?_
    refine ⟨_, (.tmp rfl .nil), ?_, (Below.ext hx5 (Ext.drew w5) hx5.size)⟩
    unfold checkS
    simp only [*, retV, Bool.true_and, Bool.false_and]
    try rfl

theorem ref1_CheckKnow_ok {w : World} (g x c s : UInt64) :
    Calls Pr N_ref1_CheckKnow #[u64v g, u64v x, .agg #[u64v c, u64v s]] w fun e w' => e = .returned (.bool (checkS g x c s)) ∧ Ext w w' := by
  obtain ⟨F, hF⟩ : ∃ F : Nat → Prop, ∀ k, w.heap.size ≤ k → F k := ⟨fun _ => True, fun _ _ => trivial⟩
  refine calls (args := [u64v g, u64v x, .agg #[u64v c, u64v s]]) fn_ref1_CheckKnow rfl rfl rfl rfl ?_
  refine C_seq ?_
  refine C_region ?_
  refine s_box rfl ?_
  intro g5 w5 hgB5 hx5 hk5
  have hgb5 := hgB5
  refine s_v (y_assign rfl) ?_
  refine G_nil ?_
  refine C_seq ?_
  refine C_draw (S := fun w' => Ext w5.drew w') rfl rfl ?_
  refine A_take 0 rfl (y_move rfl) (Ext.refl _) (fun _ _ _ h => h) ?_
  refine A_act 1 rfl ?_
  refine s_call rfl cl_ref1_Right (ref1_Right_ok _) ?_
  rintro _ _ ⟨rfl, rfl⟩
  refine ⟨_, rfl, ?_⟩
  refine G_nil ⟨(Ext.refl _), ?_⟩
  refine A_take 2 rfl (y_move rfl) (Ext.refl _) (fun _ _ _ h => h) ?_
  refine GA_case 9 rfl (fun hg9 => ?_) (fun hg9 => ?_)
  · skip
    try replace hg9 := of_decide_eq_true hg9
    refine A_takeG 3 rfl rfl rfl rfl rfl (y_move rfl) (Ext.refl _) (fun _ _ _ h => h) ?_
    refine A_act 4 rfl ?_
    refine s_yes rfl rfl rfl ?_
    refine s_call rfl cl_ref1_Right (ref1_Right_ok _) ?_
    rintro _ _ ⟨rfl, rfl⟩
    refine ⟨_, rfl, ?_⟩
    refine G_nil ⟨(Ext.refl _), ?_⟩
    refine A_take 5 rfl (y_pick rfl rfl) (Ext.refl _) (fun _ _ _ h => h) ?_
    refine A_take 6 rfl (y_move rfl) (Ext.refl _) (fun _ _ _ h => h) ?_
    refine GA_case 13 rfl (fun hg13 => ?_) (fun hg13 => ?_)
    · skip
      try replace hg13 := of_decide_eq_true hg13
      refine A_takeG 7 rfl rfl rfl rfl rfl (y_loadA rfl (fun _ e => (((hk5.ext (Ext.drew w5)).at_ _)).ext e) u_api_Proof i_api_Proof rfl) (Ext.refl _) (fun _ _ _ h => h) ?_
      refine A_act 8 rfl ?_
      refine s_yes rfl rfl rfl ?_
      refine s_call rfl cl_ref1_small (ref1_small_ok _ _) ?_
      rintro _ w15 ⟨rfl, hx15⟩
      refine ⟨_, rfl, ?_⟩
      have hB15 : Below w.heap.size w w15 := (Below.ext (Below.ext hx5 (Ext.drew w5) hx5.size) hx15 (Below.ext hx5 (Ext.drew w5) hx5.size).size)
      refine G_nil ⟨hx15, ?_⟩
      refine A_take 9 rfl (y_pick rfl rfl) hx15 (fun _ _ _ h => h) ?_
      refine A_take 10 rfl (y_move rfl) hx15 (fun _ _ _ h => h) ?_
      refine GA_case 17 rfl (fun hg17 => ?_) (fun hg17 => ?_)
      · skip
        try replace hg17 := of_decide_eq_true hg17
        refine A_takeG 11 rfl rfl rfl rfl rfl (y_move rfl) hx15 (fun _ _ _ h => h) ?_
        refine A_takeG 12 rfl rfl rfl rfl rfl (y_move rfl) hx15 (fun _ _ _ h => h) ?_
        refine A_takeG 13 rfl rfl rfl rfl rfl (y_move rfl) hx15 (fun _ _ _ h => h) ?_
        refine A_takeG 14 rfl rfl rfl rfl rfl (y_move rfl) hx15 (fun _ _ _ h => h) ?_
        refine A_takeG 15 rfl rfl rfl rfl rfl (y_loadA rfl (fun _ e => (((hk5.ext (Ext.drew w5)).at_ _)).ext e) u_api_Proof i_api_Proof rfl) hx15 (fun _ _ _ h => h) ?_
        refine A_takeG 19 rfl rfl rfl rfl rfl (y_fieldB rfl u_api_Proof rfl i_uint64) hx15 (fun _ _ _ h => h) ?_
        refine A_takeG 20 rfl rfl rfl rfl rfl (y_load rfl (fun _ e => (((hk5.ext (Ext.drew w5)).at_ _)).ext e) u_uint64) hx15 (fun _ _ _ h => h) ?_
        refine A_act 16 rfl ?_
        refine s_yes rfl rfl rfl ?_
        refine s_call rfl cl_ref1_back (ref1_back_ok _ _ _ _) ?_
        rintro _ w23 ⟨rfl, hx23⟩
        refine ⟨_, rfl, ?_⟩
        refine G_nil ⟨(hx15.trans hx23), ?_⟩
        refine A_act 17 rfl ?_
        refine s_yes rfl rfl rfl ?_
        refine s_lit (K := Kd.u64) (F := F) (xs := [g, x, backP g x c s]) rfl rfl rfl rfl u_sl_uint64 i_uint64 rfl (by decide) (by decide) (by simp [Value.cells, Kd.u64, Kd.flat]) (Kd.Els.lits rfl) ?_
        intro v24 w24 h24 hx24
        have hB24 : Below w.heap.size w w24 := (Below.ext (Below.ext hB15 hx23 hB15.size) hx24 (Below.ext hB15 hx23 hB15.size).size)
        refine G_nil ⟨((hx15.trans hx23).trans hx24), ?_⟩
        refine A_act 18 rfl ?_
        refine s_yes rfl rfl rfl ?_
        refine s_call rfl cl_ref1_Challenge (ref1_Challenge_ok ⟨#[107, 110, 111, 119]⟩ (by decide) ((h24.lower (Below.ext hB15 hx23 hB15.size).size).sl (fun k hk => hF k hk)) (by simp)) ?_
        rintro _ w25 ⟨rfl, hx25⟩
        refine ⟨_, rfl, ?_⟩
        refine G_nil ⟨(((hx15.trans hx23).trans hx24).trans hx25), ?_⟩
        refine A_takeG 21 rfl rfl rfl rfl rfl (y_bin rfl rfl (fun _ => v_eql64 _ _)) (((hx15.trans hx23).trans hx24).trans hx25) (fun _ _ _ h => h) ?_
        refine A_take 22 rfl (y_pick rfl rfl) (((hx15.trans hx23).trans hx24).trans hx25) (fun _ _ _ h => h) ?_
        refine A_take 23 rfl (y_assign rfl) (((hx15.trans hx23).trans hx24).trans hx25) (fun _ _ _ h => h) ?_
        refine A_done ?_
        refine C_ret ?_
        refine ⟨_, (.tmp rfl .nil), ?_, (Below.ext hB24 hx25 hB24.size)⟩
        unfold checkS
        simp only [*, retV, Bool.true_and, Bool.false_and]
        try rfl
      · skip
        try replace hg17 := of_decide_eq_false hg17
        refine A_not 11 rfl rfl rfl rfl rfl hx15 (fun _ _ _ h => h) ?_
        refine A_not 12 rfl rfl rfl rfl rfl hx15 (fun _ _ _ h => h) ?_
        refine A_not 13 rfl rfl rfl rfl rfl hx15 (fun _ _ _ h => h) ?_
        refine A_not 14 rfl rfl rfl rfl rfl hx15 (fun _ _ _ h => h) ?_
        refine A_not 15 rfl rfl rfl rfl rfl hx15 (fun _ _ _ h => h) ?_
        refine A_not 16 rfl rfl rfl rfl rfl hx15 (fun _ _ _ h => h) ?_
        refine A_not 17 rfl rfl rfl rfl rfl hx15 (fun _ _ _ h => h) ?_
        refine A_not 18 rfl rfl rfl rfl rfl hx15 (fun _ _ _ h => h) ?_
        refine A_not 19 rfl rfl rfl rfl rfl hx15 (fun _ _ _ h => h) ?_
        refine A_not 20 rfl rfl rfl rfl rfl hx15 (fun _ _ _ h => h) ?_
        refine A_not 21 rfl rfl rfl rfl rfl hx15 (fun _ _ _ h => h) ?_
        refine A_take 22 rfl (y_pick rfl rfl) hx15 (fun _ _ _ h => h) ?_
        refine A_take 23 rfl (y_assign rfl) hx15 (fun _ _ _ h => h) ?_
        refine A_done ?_
        refine C_ret ?_
        refine ⟨_, (.tmp rfl .nil), ?_, hB15⟩
        unfold checkS
        simp only [*, retV, Bool.true_and, Bool.false_and]
        try rfl
    · skip
      try replace hg13 := of_decide_eq_false hg13
      refine A_not 7 rfl rfl rfl rfl rfl (Ext.refl _) (fun _ _ _ h => h) ?_
      refine A_not 8 rfl rfl rfl rfl rfl (Ext.refl _) (fun _ _ _ h => h) ?_
      refine A_take 9 rfl (y_pick rfl rfl) (Ext.refl _) (fun _ _ _ h => h) ?_
      refine A_take 10 rfl (y_move rfl) (Ext.refl _) (fun _ _ _ h => h) ?_
      refine A_not 11 rfl rfl rfl rfl rfl (Ext.refl _) (fun _ _ _ h => h) ?_
      refine A_not 12 rfl rfl rfl rfl rfl (Ext.refl _) (fun _ _ _ h => h) ?_
      refine A_not 13 rfl rfl rfl rfl rfl (Ext.refl _) (fun _ _ _ h => h) ?_
      refine A_not 14 rfl rfl rfl rfl rfl (Ext.refl _) (fun _ _ _ h => h) ?_
      refine A_not 15 rfl rfl rfl rfl rfl (Ext.refl _) (fun _ _ _ h => h) ?_
      refine A_not 16 rfl rfl rfl rfl rfl (Ext.refl _) (fun _ _ _ h => h) ?_
      refine A_not 17 rfl rfl rfl rfl rfl (Ext.refl _) (fun _ _ _ h => h) ?_
      refine A_not 18 rfl rfl rfl rfl rfl (Ext.refl _) (fun _ _ _ h => h) ?_
      refine A_not 19 rfl rfl rfl rfl rfl (Ext.refl _) (fun _ _ _ h => h) ?_
      refine A_not 20 rfl rfl rfl rfl rfl (Ext.refl _) (fun _ _ _ h => h) ?_
      refine A_not 21 rfl rfl rfl rfl rfl (Ext.refl _) (fun _ _ _ h => h) ?_
      refine A_take 22 rfl (y_pick rfl rfl) (Ext.refl _) (fun _ _ _ h => h) ?_
      refine A_take 23 rfl (y_assign rfl) (Ext.refl _) (fun _ _ _ h => h) ?_
      refine A_done ?_
      refine C_ret ?_
      refine ⟨_, (.tmp rfl .nil), ?_, (Below.ext hx5 (Ext.drew w5) hx5.size)⟩
      unfold checkS
      simp only [*, retV, Bool.true_and, Bool.false_and]
      try rfl
  · skip
    try replace hg9 := of_decide_eq_false hg9
    refine A_not 3 rfl rfl rfl rfl rfl (Ext.refl _) (fun _ _ _ h => h) ?_
    refine A_not 4 rfl rfl rfl rfl rfl (Ext.refl _) (fun _ _ _ h => h) ?_
    refine A_take 5 rfl (y_pick rfl rfl) (Ext.refl _) (fun _ _ _ h => h) ?_
    refine A_take 6 rfl (y_move rfl) (Ext.refl _) (fun _ _ _ h => h) ?_
    refine A_not 7 rfl rfl rfl rfl rfl (Ext.refl _) (fun _ _ _ h => h) ?_
    refine A_not 8 rfl rfl rfl rfl rfl (Ext.refl _) (fun _ _ _ h => h) ?_
    refine A_take 9 rfl (y_pick rfl rfl) (Ext.refl _) (fun _ _ _ h => h) ?_
    refine A_take 10 rfl (y_move rfl) (Ext.refl _) (fun _ _ _ h => h) ?_
    refine A_not 11 rfl rfl rfl rfl rfl (Ext.refl _) (fun _ _ _ h => h) ?_
    refine A_not 12 rfl rfl rfl rfl rfl (Ext.refl _) (fun _ _ _ h => h) ?_
    refine A_not 13 rfl rfl rfl rfl rfl (Ext.refl _) (fun _ _ _ h => h) ?_
    refine A_not 14 rfl rfl rfl rfl rfl (Ext.refl _) (fun _ _ _ h => h) ?_
    refine A_not 15 rfl rfl rfl rfl rfl (Ext.refl _) (fun _ _ _ h => h) ?_
    refine A_not 16 rfl rfl rfl rfl rfl (Ext.refl _) (fun _ _ _ h => h) ?_
    refine A_not 17 rfl rfl rfl rfl rfl (Ext.refl _) (fun _ _ _ h => h) ?_
    refine A_not 18 rfl rfl rfl rfl rfl (Ext.refl _) (fun _ _ _ h => h) ?_
    refine A_not 19 rfl rfl rfl rfl rfl (Ext.refl _) (fun _ _ _ h => h) ?_
    refine A_not 20 rfl rfl rfl rfl rfl (Ext.refl _) (fun _ _ _ h => h) ?_
    refine A_not 21 rfl rfl rfl rfl rfl (Ext.refl _) (fun _ _ _ h => h) ?_
    refine A_take 22 rfl (y_pick rfl rfl) (Ext.refl _) (fun _ _ _ h => h) ?_
    refine A_take 23 rfl (y_assign rfl) (Ext.refl _) (fun _ _ _ h => h) ?_
    refine A_done ?_
    refine C_ret ?_
    refine ⟨_, (.tmp rfl .nil), ?_, (Below.ext hx5 (Ext.drew w5) hx5.size)⟩
    unfold checkS
    simp only [*, retV, Bool.true_and, Bool.false_and]
    try rfl

theorem proof_Know_ok {w : World} (g x secret draw : UInt64) :
    Calls Pr N_proof_Know #[u64v g, u64v x, u64v secret, u64v draw] w fun e w' => e = .returned (.agg #[u64v (knowC g x draw), u64v (answerS (knowC g x draw) secret draw)]) ∧ Ext w w' := by
  obtain ⟨F, hF⟩ : ∃ F : Nat → Prop, ∀ k, w.heap.size ≤ k → F k := ⟨fun _ => True, fun _ _ => trivial⟩
  refine calls (args := [u64v g, u64v x, u64v secret, u64v draw]) fn_proof_Know rfl rfl rfl rfl ?_
  refine C_seq ?_
  refine C_region ?_
  refine s_alloc i_api_Proof ?_
  intro g8 w8 hgB8 hx8 hk8
  have hgb8 := hgB8
  refine G_nil ?_
  refine C_seq ?_
  refine C_region ?_
  refine s_v (y_move rfl) ?_
  refine s_v (y_move rfl) ?_
  refine s_v (y_move rfl) ?_
  refine s_v (y_move rfl) ?_
  refine s_call rfl cl_group_Times (group_Times_ok _ _) ?_
  rintro _ _ ⟨rfl, rfl⟩
  refine ⟨_, rfl, ?_⟩
  refine s_lit (K := Kd.u64) (F := F) (xs := [g, x, timesP g draw]) rfl rfl rfl rfl u_sl_uint64 i_uint64 rfl (by decide) (by decide) (by simp [Value.cells, Kd.u64, Kd.flat]) (Kd.Els.lits rfl) ?_
  intro v15 w15 h15 hx15
  refine s_call rfl cl_proof_Challenge (proof_Challenge_ok ⟨#[107, 110, 111, 119]⟩ (by decide) ((h15.lower hx8.size).sl (fun k hk => hF k hk)) (by simp)) ?_
  rintro _ w16 ⟨rfl, hx16⟩
  refine ⟨_, rfl, ?_⟩
  have hB16 : Below w.heap.size w w16 := (Below.ext (Below.ext hx8 hx15 hx8.size) hx16 (Below.ext hx8 hx15 hx8.size).size)
  rw [show challengeS (⟨#[107, 110, 111, 119]⟩ : ByteArray).data.toList [g, x, timesP g draw] = knowC g x draw from rfl]
  refine s_v (y_assign rfl) ?_
  refine G_nil ?_
  refine C_seq ?_
  refine C_region ?_
  refine s_v (y_move rfl) ?_
  refine s_v (y_move rfl) ?_
  refine s_v (y_move rfl) ?_
  refine s_v (y_move rfl) ?_
  refine s_call rfl cl_proof_Answer (proof_Answer_ok _ _ _) ?_
  rintro _ w21 ⟨rfl, hx21⟩
  refine ⟨_, rfl, ?_⟩
  refine s_v (y_build rfl u_api_Proof i_api_Proof pl_api_Proof rfl) ?_
  refine s_store rfl rfl (hk8.ext ((hx15.trans hx16).trans hx21)) i_api_Proof rfl (Nat.le_of_ble_eq_true rfl) rfl ?_
  intro w2_6 hg2_6 hk2_6
  have hb2_6 : Below w.heap.size w21 w2_6 := (Below.refl _ _).grown hg2_6 (Below.ext hB16 hx21 hB16.size).size (fun k hk => by cases hk; exact hgB8)
  have hB2_6 : Below w.heap.size w w2_6 := (Below.trans (Below.ext hB16 hx21 hB16.size) hb2_6)
  refine G_nil ?_
  refine C_ret ?_
  exact ⟨_, (.cell rfl (ldA (hk2_6.at_ _) u_api_Proof i_api_Proof rfl) .nil), rfl, hB2_6⟩

theorem ref1_Know_ok {w : World} (g x secret draw : UInt64) :
    Calls Pr N_ref1_Know #[u64v g, u64v x, u64v secret, u64v draw] w fun e w' => e = .returned (.agg #[u64v (knowC g x draw), u64v (answerS (knowC g x draw) secret draw)]) ∧ Ext w w' := by
  obtain ⟨F, hF⟩ : ∃ F : Nat → Prop, ∀ k, w.heap.size ≤ k → F k := ⟨fun _ => True, fun _ _ => trivial⟩
  refine calls (args := [u64v g, u64v x, u64v secret, u64v draw]) fn_ref1_Know rfl rfl rfl rfl ?_
  refine C_seq ?_
  refine C_region ?_
  refine s_alloc i_api_Proof ?_
  intro g8 w8 hgB8 hx8 hk8
  have hgb8 := hgB8
  refine G_nil ?_
  refine C_seq ?_
  refine C_region ?_
  refine s_v (y_move rfl) ?_
  refine s_v (y_move rfl) ?_
  refine s_v (y_move rfl) ?_
  refine s_v (y_move rfl) ?_
  refine s_call rfl cl_ref1_Times (ref1_Times_ok _ _) ?_
  rintro _ _ ⟨rfl, rfl⟩
  refine ⟨_, rfl, ?_⟩
  refine s_lit (K := Kd.u64) (F := F) (xs := [g, x, timesP g draw]) rfl rfl rfl rfl u_sl_uint64 i_uint64 rfl (by decide) (by decide) (by simp [Value.cells, Kd.u64, Kd.flat]) (Kd.Els.lits rfl) ?_
  intro v15 w15 h15 hx15
  refine s_call rfl cl_ref1_Challenge (ref1_Challenge_ok ⟨#[107, 110, 111, 119]⟩ (by decide) ((h15.lower hx8.size).sl (fun k hk => hF k hk)) (by simp)) ?_
  rintro _ w16 ⟨rfl, hx16⟩
  refine ⟨_, rfl, ?_⟩
  have hB16 : Below w.heap.size w w16 := (Below.ext (Below.ext hx8 hx15 hx8.size) hx16 (Below.ext hx8 hx15 hx8.size).size)
  rw [show challengeS (⟨#[107, 110, 111, 119]⟩ : ByteArray).data.toList [g, x, timesP g draw] = knowC g x draw from rfl]
  refine s_v (y_assign rfl) ?_
  refine G_nil ?_
  refine C_seq ?_
  refine C_region ?_
  refine s_v (y_move rfl) ?_
  refine s_v (y_move rfl) ?_
  refine s_v (y_move rfl) ?_
  refine s_v (y_move rfl) ?_
  refine s_call rfl cl_ref1_answer (ref1_answer_ok _ _ _) ?_
  rintro _ w21 ⟨rfl, hx21⟩
  refine ⟨_, rfl, ?_⟩
  refine s_v (y_build rfl u_api_Proof i_api_Proof pl_api_Proof rfl) ?_
  refine s_store rfl rfl (hk8.ext ((hx15.trans hx16).trans hx21)) i_api_Proof rfl (Nat.le_of_ble_eq_true rfl) rfl ?_
  intro w2_6 hg2_6 hk2_6
  have hb2_6 : Below w.heap.size w21 w2_6 := (Below.refl _ _).grown hg2_6 (Below.ext hB16 hx21 hB16.size).size (fun k hk => by cases hk; exact hgB8)
  have hB2_6 : Below w.heap.size w w2_6 := (Below.trans (Below.ext hB16 hx21 hB16.size) hb2_6)
  refine G_nil ?_
  refine C_ret ?_
  exact ⟨_, (.cell rfl (ldA (hk2_6.at_ _) u_api_Proof i_api_Proof rfl) .nil), rfl, hB2_6⟩
end Go.Proofs.YtdaphjnenookiaaDoor
