/- That the reference computes the same sum. -/
import Derived.Test.YtdaphjnenookiaaDoorProg
import Derived.Test.YtdaphjnenookiaaDoorNm
import Derived.Test.YtdaphjnenookiaaDoorwords
import Derived.Test.YtdaphjnenookiaaDoorsha
namespace Go.Proofs.YtdaphjnenookiaaDoor
open Go Go.RowKit Go.Proofs
set_option linter.unusedVariables false
set_option linter.unusedSimpArgs false
set_option maxRecDepth 4000


theorem ref1_Written_ok {F : Nat → Prop} {w : World} :
    Calls Pr N_ref1_Written #[] w fun e w' => ∃ v, e = .returned (.tuple #[v, .agg (shaH.map u32v).toArray]) ∧ Kd.u32.Own F w.heap.size ty_uint32 w' v shaK ∧ Ext w w' := by
  refine calls (args := []) fn_ref1_Written rfl rfl rfl rfl ?_
  refine C_seq ?_
  refine C_region ?_
  refine s_v (y_assign rfl) ?_
  refine s_alloc i_a8_uint32 ?_
  intro g1 w1 hgB1 hx1 hk1
  have hgb1 := hgB1
  refine G_nil ?_
  refine C_seq ?_
  refine C_region ?_
  refine s_v (y_buildA rfl rfl u_a8_uint32 i_a8_uint32 i_uint32 (by simp [Value.cells]) rfl) ?_
  refine s_alloc i_a8_uint32 ?_
  intro g2 w2 hgB2 hx2 hk2
  have hne_g1_2 : g1 ≠ g2 := Nat.ne_of_lt (Nat.lt_of_lt_of_le hk1.lt hgB2)
  have hgb2 := hgB2
  replace hgB2 := Nat.le_trans hx1.size hgB2
  refine s_store rfl rfl hk2 i_a8_uint32 rfl (Nat.le_of_ble_eq_true rfl) rfl ?_
  intro w1_2 hg1_2 hk1_2
  have hb1_2 : Below w.heap.size w2 w1_2 := (Below.refl _ _).grown hg1_2 (Below.ext hx1 hx2 hx1.size).size (fun k hk => by cases hk; exact hgB2)
  have hB1_2 : Below w.heap.size w w1_2 := (Below.trans (Below.ext hx1 hx2 hx1.size) hb1_2)
  replace hk1_2 : Blk w1_2 g2 ty_a8_uint32 (shaH.map u32v) := hk1_2.whole rfl (by simp [Value.cells]; rfl)
  refine G_nil ?_
  refine C_seq ?_
  have hSd : (fun w' => Blk w' g2 ty_a8_uint32 (shaH.map u32v)) w1_2.drew := hk1_2
  refine C_draw (S := fun w' => Blk w' g2 ty_a8_uint32 (shaH.map u32v)) rfl rfl ?_
  have hBd2 : Below w.heap.size w w1_2.drew := (Below.ext hB1_2 (Ext.drew w1_2) hB1_2.size)
  refine A_take 1 rfl (y_loadA rfl (fun _ e => e.cells) u_a8_uint32 i_a8_uint32 rfl) hSd (fun _ _ _ h => h) ?_
  refine A_act 0 rfl ?_
  refine s_lit (K := Kd.u32) (F := F) (xs := shaK) rfl rfl rfl rfl u_sl_uint32 i_uint32 rfl (by decide) (by decide) (by simp [Value.cells, Kd.u32, Kd.flat]) (Kd.Els.lits rfl) ?_
  intro v4 w4 h4 hx4
  have hSd0 : (fun w' => Blk w' g2 ty_a8_uint32 (shaH.map u32v)) w4 := (hk1_2.ext ((Ext.drew w1_2).trans hx4))
  refine G_nil ⟨hSd0, ?_⟩
  refine A_take 2 rfl (y_assign rfl) hSd0 (fun _ _ _ h => h) ?_
  refine A_act 3 rfl ?_
  refine s_store rfl rfl ((((hk1.ext hx2).far hg1_2 hne_g1_2).ext (Ext.drew w1_2)).ext hx4) i_a8_uint32 rfl (Nat.le_of_ble_eq_true rfl) rfl ?_
  intro w2_3 hg2_3 hk2_3
  have hb2_3 : Below w.heap.size w4 w2_3 := (Below.refl _ _).grown hg2_3 (Below.ext hBd2 hx4 hBd2.size).size (fun k hk => by cases hk; exact hgB1)
  have hB2_3 : Below w.heap.size w w2_3 := (Below.trans (Below.ext hBd2 hx4 hBd2.size) hb2_3)
  replace hk2_3 : Blk w2_3 g1 ty_a8_uint32 (shaH.map u32v) := hk2_3.whole rfl (by simp [Value.cells])
  have hSd3 : (fun w' => Blk w' g2 ty_a8_uint32 (shaH.map u32v)) w2_3 := (((hk1_2.ext (Ext.drew w1_2)).ext hx4).far hg2_3 (Ne.symm hne_g1_2))
  refine G_nil ⟨hSd3, ?_⟩
  refine A_done ?_
  refine C_ret ?_
  exact ⟨_, (.tmp rfl (.cell rfl (ldA (hk2_3.at_ _) u_a8_uint32 i_a8_uint32 rfl) .nil)), _, rfl, ((h4.lower hBd2.size).kb ((((hk1.ext hx2).far hg1_2 hne_g1_2).ext (Ext.drew w1_2)).ext hx4) flat_u32 hg2_3 (by decide)), hB2_3⟩

theorem add_rc (a b c : UInt32) : a + b + c = a + c + b := by rw [UInt32.add_assoc, UInt32.add_comm b c, UInt32.add_assoc]
/-- The words put on by one from j on. -/
def shl8 (h : List UInt32) (j : Nat) : List UInt32 := h.take (j + 1) ++ (h.drop j).dropLast
theorem shl8_ok (a b c d e f g q : UInt32) (j : Nat) (h0 : 0 < j) (h7 : j ≤ 7) :
    ((shl8 [a, b, c, d, e, f, g, q] j).set j ([a, b, c, d, e, f, g, q].getD (j - 1) 0) = shl8 [a, b, c, d, e, f, g, q] (j - 1)) ∧ (shl8 [a, b, c, d, e, f, g, q] j)[j - 1]? = some ([a, b, c, d, e, f, g, q].getD (j - 1) 0) ∧ (shl8 [a, b, c, d, e, f, g, q] j).length = 8 := by
  obtain rfl | rfl | rfl | rfl | rfl | rfl | rfl : j = 1 ∨ j = 2 ∨ j = 3 ∨ j = 4 ∨ j = 5 ∨ j = 6 ∨ j = 7 := by omega
  all_goals exact ⟨rfl, rfl, rfl⟩
theorem some_iv {a b : Int} (h : a = b) : some (iv a) = some (iv b) := by rw [h]
theorem zip_comm (a b : List UInt32) : List.zipWith (· + ·) a b = List.zipWith (· + ·) b a := by
  rw [List.zipWith_comm]
  congr 1
  funext x y
  exact UInt32.add_comm _ _
theorem getS_take {b : List UInt8} {p n : Int} {m : Nat} (hm : m ≤ b.length) (h0 : 0 ≤ p) (h1 : p + n ≤ m) (hn : 0 ≤ n) : getS (b.take m) p n = getS b p n := by
  have hl : (b.take m).length = m := by rw [List.length_take]; omega
  unfold getS
  rw [hl, if_neg (by omega), if_neg (by omega), if_neg (by omega), if_neg (by omega), List.take_take, Nat.min_eq_left (by omega)]
theorem sched_take {b : List UInt8} (hb : 64 ≤ b.length) : ∀ k, sched (b.take 64) k = sched b k
  | 0 => rfl
  | k + 1 => by
    rw [sched, sched, sched_take hb k]
    unfold nextW
    split
    · rename_i h
      rw [getS_take hb (by omega) (by omega) (by omega)]
    · rfl
theorem rounds_take {b : List UInt8} (hb : 64 ≤ b.length) (h : List UInt32) : ∀ k, roundsS h (b.take 64) k = roundsS h b k
  | 0 => rfl
  | k + 1 => by rw [roundsS, roundsS, rounds_take hb h k, sched_take hb]
theorem mixS_take {b : List UInt8} (hb : 64 ≤ b.length) (h : List UInt32) : mixS h (b.take 64) = mixS h b := by unfold mixS; rw [rounds_take hb]
/-- A copy by one. -/
theorem fill_step {α : Type} {l : List α} {n i : Nat} {x z : α} (hl : l.length = n) (h : l[i]? = some x) : (l.take i ++ List.replicate (n - i) z).set i x = l.take (i + 1) ++ List.replicate (n - (i + 1)) z := by
  obtain ⟨h1, h2⟩ := List.getElem?_eq_some_iff.1 h
  have ht : (l.take i).length = i := by rw [List.length_take]; omega
  obtain ⟨m, hm⟩ : ∃ m, n - i = m + 1 := ⟨n - i - 1, by omega⟩
  rw [hm, List.replicate_succ, List.set_append_right _ _ (by omega), ht, Nat.sub_self, List.set_cons_zero, take_snoc l i x h, List.append_assoc, show n - (i + 1) = m from by omega]
  rfl

theorem ref1_mixed_ok {F : Nat → Prop} {w : World} {kv : Value} {bs : List UInt8} (h : List UInt32) (hh : h.length = 8) (m : List UInt32) (hm : m = sched bs 16 ++ List.replicate 48 0) (hK : Kd.u32.Sl F w kv shaK) :
    Calls Pr N_ref1_mixed #[.agg (h.map u32v).toArray, .agg (m.map u32v).toArray, kv] w fun e w' => e = .returned (.agg ((mixS h bs).map u32v).toArray) ∧ Ext w w' := by
  refine calls (args := [.agg (h.map u32v).toArray, .agg (m.map u32v).toArray, kv]) fn_ref1_mixed rfl rfl rfl rfl ?_
  refine C_seq ?_
  refine C_region ?_
  refine s_box rfl ?_
  intro g3 w3 hgB3 hx3 hk3
  have hgb3 := hgB3
  replace hk3 : Blk w3 g3 ty_a8_uint32 (h.map u32v) := by simpa [Value.cells] using hk3
  refine s_box rfl ?_
  intro g4 w4 hgB4 hx4 hk4
  have hne_g3_4 : g3 ≠ g4 := Nat.ne_of_lt (Nat.lt_of_lt_of_le hk3.lt hgB4)
  have hgb4 := hgB4
  replace hgB4 := Nat.le_trans hx3.size hgB4
  replace hk4 : Blk w4 g4 ty_a64_uint32 (m.map u32v) := by simpa [Value.cells] using hk4
  rw [hm] at hk4
  refine s_alloc i_a8_uint32 ?_
  intro g6 w6 hgB6 hx6 hk6
  have hne_g3_6 : g3 ≠ g6 := Nat.ne_of_lt (Nat.lt_of_lt_of_le (hk3.ext hx4).lt hgB6)
  have hne_g4_6 : g4 ≠ g6 := Nat.ne_of_lt (Nat.lt_of_lt_of_le hk4.lt hgB6)
  have hgb6 := hgB6
  replace hgB6 := Nat.le_trans (Below.ext hx3 hx4 hx3.size).size hgB6
  have hB6 : Below w.heap.size w w6 := (Below.ext (Below.ext hx3 hx4 hx3.size) hx6 (Below.ext hx3 hx4 hx3.size).size)
  refine G_nil ?_
  refine C_seq ?_
  refine C_seq ?_
  refine C_region ?_
  refine s_v (y_assign rfl) ?_
  refine G_nil ?_
  refine C_block ?_
  refine C_loop (α := Nat) (fun k => [(2, kv), (3, .pointer (some ⟨g3, 0, none⟩)), (4, .pointer (some ⟨g4, 0, none⟩)), (6, .pointer (some ⟨g6, 0, none⟩)), (7, iv (k : Int))]) (fun k w' => 16 ≤ k ∧ k ≤ 64 ∧ Blk w' g4 ty_a64_uint32 ((sched bs k ++ List.replicate (64 - k) 0).map u32v) ∧ Blk w' g3 ty_a8_uint32 (h.map u32v) ∧ Blk w' g6 ty_a8_uint32 ((List.replicate 8 (0 : UInt32)).map u32v) ∧ Below w.heap.size w w') (fun k => 64 - k) 16 (.cons rfl (.cons rfl (.cons rfl (.cons rfl (.cons rfl (.nil)))))) ⟨Nat.le_refl _, by decide, (hk4.ext hx6), (hk3.ext (hx4.trans hx6)), hk6, hB6⟩ ?_
  rintro k wL0 ⟨hk0, hk, hw4, hw3, hw6, hBL⟩
  refine C_seq ?_
  refine C_seq ?_
  refine C_region ?_
  refine s_v (y_move rfl) ?_
  refine s_v (y_bin rfl rfl (fun _ => v_lss)) ?_
  refine G_nil ?_
  refine C_if rfl (fun hc19 => ?_) (fun hc19 => ?_)
  · skip
    replace hk : k < 64 := by omega
    refine C_skip ?_
    refine C_seq ?_
    refine C_block ?_
    refine C_seq ?_
    refine C_region ?_
    refine s_v (y_move rfl) ?_
    refine s_v (y_bin rfl rfl (fun _ => v_sub (by omega))) ?_
    refine s_v (y_idxB rfl rfl (by omega) (by omega) u_a64_uint32 i_uint32) ?_
    refine s_v (y_load rfl (fun _ e => e ▸ ((show PreAt u32v _ g4 ty_a64_uint32 (sched bs k) from ⟨_, hw4, full_pre bs⟩).el (sched_some bs (k := k) (j := k - 15) (by omega)) (by omega))) u_uint32) ?_
    refine s_v (y_assign rfl) ?_
    refine G_nil ?_
    refine C_seq ?_
    refine C_region ?_
    refine s_v (y_move rfl) ?_
    refine s_v (y_bin rfl rfl (fun _ => v_sub (by omega))) ?_
    refine s_v (y_idxB rfl rfl (by omega) (by omega) u_a64_uint32 i_uint32) ?_
    refine s_v (y_load rfl (fun _ e => e ▸ ((show PreAt u32v _ g4 ty_a64_uint32 (sched bs k) from ⟨_, hw4, full_pre bs⟩).el (sched_some bs (k := k) (j := k - 2) (by omega)) (by omega))) u_uint32) ?_
    refine s_v (y_assign rfl) ?_
    refine G_nil ?_
    have hSd : (fun w' => PreAt u32v w' g4 ty_a64_uint32 (sched bs k)) wL0.drew := ⟨_, hw4, full_pre bs⟩
    refine C_draw (S := fun w' => PreAt u32v w' g4 ty_a64_uint32 (sched bs k)) rfl rfl ?_
    refine A_take 0 rfl (y_move rfl) hSd (fun _ _ _ h => h) ?_
    refine A_take 1 rfl (y_move rfl) hSd (fun _ _ _ h => h) ?_
    refine A_take 2 rfl (y_bin rfl rfl (fun _ => v_sub (by omega))) hSd (fun _ _ _ h => h) ?_
    refine A_take 3 rfl (y_idxB rfl rfl (by omega) (by omega) u_a64_uint32 i_uint32) hSd (fun _ _ _ h => h) ?_
    refine A_take 4 rfl (y_load rfl (fun _ e => (e.el (sched_some bs (k := k) (j := k - 16) (by omega)) (by omega))) u_uint32) hSd (fun _ _ _ h => h) ?_
    refine A_take 5 rfl (y_move rfl) hSd (fun _ _ _ h => h) ?_
    refine A_take 6 rfl (y_bin rfl rfl (fun _ => v_sub (by omega))) hSd (fun _ _ _ h => h) ?_
    refine A_take 7 rfl (y_idxB rfl rfl (by omega) (by omega) u_a64_uint32 i_uint32) hSd (fun _ _ _ h => h) ?_
    refine A_take 8 rfl (y_load rfl (fun _ e => (e.el (sched_some bs (k := k) (j := k - 7) (by omega)) (by omega))) u_uint32) hSd (fun _ _ _ h => h) ?_
    refine A_take 9 rfl (y_bin rfl rfl (fun _ => v_add32 _ _)) hSd (fun _ _ _ h => h) ?_
    refine A_take 10 rfl (y_move rfl) hSd (fun _ _ _ h => h) ?_
    refine A_take 12 rfl (y_move rfl) hSd (fun _ _ _ h => h) ?_
    refine A_take 15 rfl (y_move rfl) hSd (fun _ _ _ h => h) ?_
    refine A_take 16 rfl (y_bin rfl rfl (fun _ => v_shr32 _ 3 (by decide))) hSd (fun _ _ _ h => h) ?_
    refine A_take 19 rfl (y_move rfl) hSd (fun _ _ _ h => h) ?_
    refine A_take 21 rfl (y_move rfl) hSd (fun _ _ _ h => h) ?_
    refine A_take 24 rfl (y_move rfl) hSd (fun _ _ _ h => h) ?_
    refine A_take 25 rfl (y_bin rfl rfl (fun _ => v_shr32 _ 10 (by decide))) hSd (fun _ _ _ h => h) ?_
    refine A_act 11 rfl ?_
    refine s_call rfl cl_ref1_turn (ref1_turn_ok _ _ (by decide)) ?_
    rintro _ _ ⟨rfl, rfl⟩
    refine ⟨_, rfl, ?_⟩
    refine G_nil ⟨hSd, ?_⟩
    refine A_act 13 rfl ?_
    refine s_call rfl cl_ref1_turn (ref1_turn_ok _ _ (by decide)) ?_
    rintro _ _ ⟨rfl, rfl⟩
    refine ⟨_, rfl, ?_⟩
    refine G_nil ⟨hSd, ?_⟩
    refine A_take 14 rfl (y_bin rfl rfl (fun _ => v_xor32 _ _)) hSd (fun _ _ _ h => h) ?_
    refine A_take 17 rfl (y_bin rfl rfl (fun _ => v_xor32 _ _)) hSd (fun _ _ _ h => h) ?_
    refine A_take 18 rfl (y_bin rfl rfl (fun _ => v_add32 _ _)) hSd (fun _ _ _ h => h) ?_
    refine A_act 20 rfl ?_
    refine s_call rfl cl_ref1_turn (ref1_turn_ok _ _ (by decide)) ?_
    rintro _ _ ⟨rfl, rfl⟩
    refine ⟨_, rfl, ?_⟩
    refine G_nil ⟨hSd, ?_⟩
    refine A_act 22 rfl ?_
    refine s_call rfl cl_ref1_turn (ref1_turn_ok _ _ (by decide)) ?_
    rintro _ _ ⟨rfl, rfl⟩
    refine ⟨_, rfl, ?_⟩
    refine G_nil ⟨hSd, ?_⟩
    refine A_take 23 rfl (y_bin rfl rfl (fun _ => v_xor32 _ _)) hSd (fun _ _ _ h => h) ?_
    refine A_take 26 rfl (y_bin rfl rfl (fun _ => v_xor32 _ _)) hSd (fun _ _ _ h => h) ?_
    refine A_take 27 rfl (y_bin rfl rfl (fun _ => v_add32 _ _)) hSd (fun _ _ _ h => h) ?_
    refine A_take 28 rfl (y_idxB rfl rfl (by omega) (by omega) u_a64_uint32 i_uint32) hSd (fun _ _ _ h => h) ?_
    refine A_act 29 rfl ?_
    refine s_store rfl rfl (hw4.ext (Ext.drew wL0)) i_uint32 rfl (by simp [sched_len]; omega) rfl ?_
    intro w6_29 hg6_29 hk6_29
    have hb6_29 : Below w.heap.size wL0.drew w6_29 := (Below.refl _ _).grown hg6_29 (Below.ext hBL (Ext.drew wL0) hBL.size).size (fun k hk => by cases hk; exact hgB4)
    have hB6_29 : Below w.heap.size w w6_29 := (Below.trans (Below.ext hBL (Ext.drew wL0) hBL.size) hb6_29)
    replace hk6_29 := blk_set hk6_29 (k := k) (by omega) (by simp [sched_len]; omega)
    have hnw : (sched bs k).getD (k - 16) 0 + (sched bs k).getD (k - 7) 0 + (rotr ((sched bs k).getD (k - 15) 0) 7 ^^^ rotr ((sched bs k).getD (k - 15) 0) 18 ^^^ (sched bs k).getD (k - 15) 0 >>> UInt32.ofNat 3) + (rotr ((sched bs k).getD (k - 2) 0) 17 ^^^ rotr ((sched bs k).getD (k - 2) 0) 19 ^^^ (sched bs k).getD (k - 2) 0 >>> UInt32.ofNat 10) = nextW bs (sched bs k) := by unfold nextW; rw [if_neg (by have := sched_len bs k; omega), sched_len bs k]; exact congrArg (· + _) (add_rc _ _ _)
    rw [hnw] at hk6_29
    have hSd29 : (fun w' => PreAt u32v w' g4 ty_a64_uint32 (sched bs k)) w6_29 := ⟨_, hk6_29, by rw [sched_full bs k hk, sched, List.append_assoc, List.take_left]⟩
    refine G_nil ⟨hSd29, ?_⟩
    refine A_done ?_
    refine C_region ?_
    refine s_v (y_move rfl) ?_
    refine s_v (y_bin rfl rfl (fun _ => v_add (by omega))) ?_
    refine s_v (y_assign rfl) ?_
    refine G_nil ?_
    rw [sched_full bs k hk] at hk6_29
    refine ⟨k + 1, .cons rfl (.cons rfl (.cons rfl (.cons rfl (.cons rfl .nil)))), ⟨by omega, by omega, ?_, ((hw3.ext (Ext.drew wL0)).far hg6_29 hne_g3_4), ((hw6.ext (Ext.drew wL0)).far hg6_29 (Ne.symm hne_g4_6)), hB6_29⟩, by omega⟩
    rw [show 64 - (k + 1) = 63 - k from by omega]
    exact hk6_29
  · skip
    obtain rfl : k = 64 := by omega
    refine C_exit ?_
    refine C_seq ?_
    refine C_region ?_
    refine s_v (y_loadA rfl (fun _ e => e ▸ hw3.cells) u_a8_uint32 i_a8_uint32 (by simp [hh])) ?_
    refine s_alloc i_a8_uint32 ?_
    intro g10 w10 hgB10 hx10 hk10
    have hne_g3_10 : g3 ≠ g10 := Nat.ne_of_lt (Nat.lt_of_lt_of_le hw3.lt hgB10)
    have hne_g4_10 : g4 ≠ g10 := Nat.ne_of_lt (Nat.lt_of_lt_of_le hw4.lt hgB10)
    have hne_g6_10 : g6 ≠ g10 := Nat.ne_of_lt (Nat.lt_of_lt_of_le hw6.lt hgB10)
    have hgb10 := hgB10
    replace hgB10 := Nat.le_trans hBL.size hgB10
    refine s_store rfl rfl hk10 i_a8_uint32 (by simp [Value.cells, hh]) (Nat.le_of_ble_eq_true rfl) (one_map (fun _ => rfl) _) ?_
    intro w7_2 hg7_2 hk7_2
    have hb7_2 : Below w.heap.size w10 w7_2 := (Below.refl _ _).grown hg7_2 (Below.ext hBL hx10 hBL.size).size (fun k hk => by cases hk; exact hgB10)
    have hB7_2 : Below w.heap.size w w7_2 := (Below.trans (Below.ext hBL hx10 hBL.size) hb7_2)
    replace hk7_2 : Blk w7_2 g10 ty_a8_uint32 (h.map u32v) := hk7_2.whole (by simp [hh, Value.cells]) (by simp [Value.cells])
    refine G_nil ?_
    refine C_seq ?_
    refine C_seq ?_
    refine C_region ?_
    refine s_v (y_assign rfl) ?_
    refine G_nil ?_
    refine C_block ?_
    refine C_loop (α := Nat) (fun k => [(2, kv), (3, .pointer (some ⟨g3, 0, none⟩)), (4, .pointer (some ⟨g4, 0, none⟩)), (6, .pointer (some ⟨g6, 0, none⟩)), (10, .pointer (some ⟨g10, 0, none⟩)), (11, iv (k : Int))]) (fun k w' => k ≤ 64 ∧ Blk w' g10 ty_a8_uint32 ((roundsS h bs k).map u32v) ∧ Blk w' g4 ty_a64_uint32 ((sched bs 64).map u32v) ∧ Blk w' g3 ty_a8_uint32 (h.map u32v) ∧ Blk w' g6 ty_a8_uint32 ((List.replicate 8 (0 : UInt32)).map u32v) ∧ Below w.heap.size w w') (fun k => 64 - k) 0 (.cons rfl (.cons rfl (.cons rfl (.cons rfl (.cons rfl (.cons rfl (.nil))))))) ⟨Nat.zero_le _, hk7_2, by simpa using ((hw4.ext hx10).far hg7_2 hne_g4_10), ((hw3.ext hx10).far hg7_2 hne_g3_10), ((hw6.ext hx10).far hg7_2 hne_g6_10), hB7_2⟩ ?_
    rintro k wL2 ⟨hk, hw10, hw4, hw3, hw6, hBL⟩
    refine C_seq ?_
    refine C_seq ?_
    refine C_region ?_
    refine s_v (y_move rfl) ?_
    refine s_v (y_bin rfl rfl (fun _ => v_lss)) ?_
    refine G_nil ?_
    refine C_if rfl (fun hc61 => ?_) (fun hc61 => ?_)
    · skip
      replace hk : k < 64 := by omega
      have hRl := roundsS_len hh bs k
      obtain ⟨a, b, c, d, e, f, g, q, hR⟩ : ∃ a b c d e f g q, roundsS h bs k = [a, b, c, d, e, f, g, q] := by
        match roundsS h bs k, hRl with
        | [a, b, c, d, e, f, g, q], _ => exact ⟨a, b, c, d, e, f, g, q, rfl⟩
      rw [hR] at hw10
      refine C_skip ?_
      refine C_seq ?_
      refine C_block ?_
      refine C_seq ?_
      refine C_region ?_
      refine s_v (y_idxB rfl rfl (by omega) (by omega) u_a8_uint32 i_uint32) ?_
      refine s_v (y_load rfl (fun _ e => e ▸ (hw10.at_ _)) u_uint32) ?_
      refine s_v (y_idxB rfl rfl (by omega) (by omega) u_a8_uint32 i_uint32) ?_
      refine s_v (y_load rfl (fun _ e => e ▸ (hw10.at_ _)) u_uint32) ?_
      refine s_v (y_bin rfl rfl (fun _ => v_and32 _ _)) ?_
      refine s_v (y_idxB rfl rfl (by omega) (by omega) u_a8_uint32 i_uint32) ?_
      refine s_v (y_load rfl (fun _ e => e ▸ (hw10.at_ _)) u_uint32) ?_
      refine s_v (y_un rfl un_xor32) ?_
      refine s_v (y_idxB rfl rfl (by omega) (by omega) u_a8_uint32 i_uint32) ?_
      refine s_v (y_load rfl (fun _ e => e ▸ (hw10.at_ _)) u_uint32) ?_
      refine s_v (y_bin rfl rfl (fun _ => v_and32 _ _)) ?_
      refine s_v (y_bin rfl rfl (fun _ => v_xor32 _ _)) ?_
      refine s_v (y_assign rfl) ?_
      refine G_nil ?_
      refine C_seq ?_
      refine C_region ?_
      refine s_v (y_idxB rfl rfl (by omega) (by omega) u_a8_uint32 i_uint32) ?_
      refine s_v (y_load rfl (fun _ e => e ▸ (hw10.at_ _)) u_uint32) ?_
      refine s_v (y_idxB rfl rfl (by omega) (by omega) u_a8_uint32 i_uint32) ?_
      refine s_v (y_load rfl (fun _ e => e ▸ (hw10.at_ _)) u_uint32) ?_
      refine s_v (y_bin rfl rfl (fun _ => v_and32 _ _)) ?_
      refine s_v (y_idxB rfl rfl (by omega) (by omega) u_a8_uint32 i_uint32) ?_
      refine s_v (y_load rfl (fun _ e => e ▸ (hw10.at_ _)) u_uint32) ?_
      refine s_v (y_idxB rfl rfl (by omega) (by omega) u_a8_uint32 i_uint32) ?_
      refine s_v (y_load rfl (fun _ e => e ▸ (hw10.at_ _)) u_uint32) ?_
      refine s_v (y_bin rfl rfl (fun _ => v_and32 _ _)) ?_
      refine s_v (y_bin rfl rfl (fun _ => v_xor32 _ _)) ?_
      refine s_v (y_idxB rfl rfl (by omega) (by omega) u_a8_uint32 i_uint32) ?_
      refine s_v (y_load rfl (fun _ e => e ▸ (hw10.at_ _)) u_uint32) ?_
      refine s_v (y_idxB rfl rfl (by omega) (by omega) u_a8_uint32 i_uint32) ?_
      refine s_v (y_load rfl (fun _ e => e ▸ (hw10.at_ _)) u_uint32) ?_
      refine s_v (y_bin rfl rfl (fun _ => v_and32 _ _)) ?_
      refine s_v (y_bin rfl rfl (fun _ => v_xor32 _ _)) ?_
      refine s_v (y_assign rfl) ?_
      refine G_nil ?_
      refine C_seq ?_
      refine C_draw (S := fun w' => Ext wL2.drew w') rfl rfl ?_
      refine A_take 0 rfl (y_idxB rfl rfl (by omega) (by omega) u_a8_uint32 i_uint32) (Ext.refl _) (fun _ _ _ h => h) ?_
      refine A_take 1 rfl (y_load rfl (fun _ e => (((hw10.ext (Ext.drew wL2)).at_ _)).ext e) u_uint32) (Ext.refl _) (fun _ _ _ h => h) ?_
      refine A_take 2 rfl (y_idxB rfl rfl (by omega) (by omega) u_a8_uint32 i_uint32) (Ext.refl _) (fun _ _ _ h => h) ?_
      refine A_take 3 rfl (y_load rfl (fun _ e => (((hw10.ext (Ext.drew wL2)).at_ _)).ext e) u_uint32) (Ext.refl _) (fun _ _ _ h => h) ?_
      refine A_take 5 rfl (y_idxB rfl rfl (by omega) (by omega) u_a8_uint32 i_uint32) (Ext.refl _) (fun _ _ _ h => h) ?_
      refine A_take 6 rfl (y_load rfl (fun _ e => (((hw10.ext (Ext.drew wL2)).at_ _)).ext e) u_uint32) (Ext.refl _) (fun _ _ _ h => h) ?_
      refine A_take 9 rfl (y_idxB rfl rfl (by omega) (by omega) u_a8_uint32 i_uint32) (Ext.refl _) (fun _ _ _ h => h) ?_
      refine A_take 10 rfl (y_load rfl (fun _ e => (((hw10.ext (Ext.drew wL2)).at_ _)).ext e) u_uint32) (Ext.refl _) (fun _ _ _ h => h) ?_
      refine A_take 14 rfl (y_move rfl) (Ext.refl _) (fun _ _ _ h => h) ?_
      refine A_take 16 rfl (y_move rfl) (Ext.refl _) (fun _ _ _ h => h) ?_
      refine A_take 17 rfl (y_move rfl) (Ext.refl _) (fun _ _ _ h => h) ?_
      refine A_idx 18 rfl (hK.keep fun k hk _ => (Below.ext hBL (Ext.drew wL2) hBL.size).block k hk) rfl rfl (by omega) (shaK_some (k := k) (by omega)) u_sl_uint32 i_uint32 (Ext.refl _) (fun _ _ _ h => h) ?_
      rintro ad111 _ hF111 rfl hc111
      refine A_take 19 rfl (y_load rfl (fun _ e => (hc111).ext e) u_uint32) (Ext.refl _) (fun _ _ _ h => h) ?_
      refine A_take 21 rfl (y_move rfl) (Ext.refl _) (fun _ _ _ h => h) ?_
      refine A_take 22 rfl (y_idxB rfl rfl (by omega) (by omega) u_a64_uint32 i_uint32) (Ext.refl _) (fun _ _ _ h => h) ?_
      refine A_take 23 rfl (y_load rfl (fun _ e => (((hw4.ext (Ext.drew wL2)).el (sched_some bs (j := k) (k := 64) (by omega)) (by omega)).ext e)) u_uint32) (Ext.refl _) (fun _ _ _ h => h) ?_
      refine A_act 4 rfl ?_
      refine s_call rfl cl_ref1_turn (ref1_turn_ok _ 6 (by decide)) ?_
      rintro _ _ ⟨rfl, rfl⟩
      refine ⟨_, rfl, ?_⟩
      refine G_nil ⟨(Ext.refl _), ?_⟩
      refine A_act 7 rfl ?_
      refine s_call rfl cl_ref1_turn (ref1_turn_ok _ _ (by decide)) ?_
      rintro _ _ ⟨rfl, rfl⟩
      refine ⟨_, rfl, ?_⟩
      refine G_nil ⟨(Ext.refl _), ?_⟩
      refine A_take 8 rfl (y_bin rfl rfl (fun _ => v_xor32 _ _)) (Ext.refl _) (fun _ _ _ h => h) ?_
      refine A_act 11 rfl ?_
      refine s_call rfl cl_ref1_turn (ref1_turn_ok _ _ (by decide)) ?_
      rintro _ _ ⟨rfl, rfl⟩
      refine ⟨_, rfl, ?_⟩
      refine G_nil ⟨(Ext.refl _), ?_⟩
      refine A_take 12 rfl (y_bin rfl rfl (fun _ => v_xor32 _ _)) (Ext.refl _) (fun _ _ _ h => h) ?_
      refine A_take 13 rfl (y_bin rfl rfl (fun _ => v_add32 _ _)) (Ext.refl _) (fun _ _ _ h => h) ?_
      refine A_take 15 rfl (y_bin rfl rfl (fun _ => v_add32 _ _)) (Ext.refl _) (fun _ _ _ h => h) ?_
      refine A_take 20 rfl (y_bin rfl rfl (fun _ => v_add32 _ _)) (Ext.refl _) (fun _ _ _ h => h) ?_
      refine A_take 24 rfl (y_bin rfl rfl (fun _ => v_add32 _ _)) (Ext.refl _) (fun _ _ _ h => h) ?_
      refine A_take 25 rfl (y_assign rfl) (Ext.refl _) (fun _ _ _ h => h) ?_
      refine A_done ?_
      refine C_seq ?_
      refine C_draw (S := fun w' => Ext wL2.drew.drew w') rfl rfl ?_
      have hBd14 : Below w.heap.size w wL2.drew.drew := (Below.ext (Below.ext hBL (Ext.drew wL2) hBL.size) (Ext.drew wL2.drew) (Below.ext hBL (Ext.drew wL2) hBL.size).size)
      refine A_take 0 rfl (y_idxB rfl rfl (by omega) (by omega) u_a8_uint32 i_uint32) (Ext.refl _) (fun _ _ _ h => h) ?_
      refine A_take 1 rfl (y_load rfl (fun _ e => (((hw10.ext ((Ext.drew wL2).trans (Ext.drew wL2.drew))).at_ _)).ext e) u_uint32) (Ext.refl _) (fun _ _ _ h => h) ?_
      refine A_take 3 rfl (y_idxB rfl rfl (by omega) (by omega) u_a8_uint32 i_uint32) (Ext.refl _) (fun _ _ _ h => h) ?_
      refine A_take 4 rfl (y_load rfl (fun _ e => (((hw10.ext ((Ext.drew wL2).trans (Ext.drew wL2.drew))).at_ _)).ext e) u_uint32) (Ext.refl _) (fun _ _ _ h => h) ?_
      refine A_take 7 rfl (y_idxB rfl rfl (by omega) (by omega) u_a8_uint32 i_uint32) (Ext.refl _) (fun _ _ _ h => h) ?_
      refine A_take 8 rfl (y_load rfl (fun _ e => (((hw10.ext ((Ext.drew wL2).trans (Ext.drew wL2.drew))).at_ _)).ext e) u_uint32) (Ext.refl _) (fun _ _ _ h => h) ?_
      refine A_take 11 rfl (y_move rfl) (Ext.refl _) (fun _ _ _ h => h) ?_
      refine A_act 2 rfl ?_
      refine s_call rfl cl_ref1_turn (ref1_turn_ok _ _ (by decide)) ?_
      rintro _ _ ⟨rfl, rfl⟩
      refine ⟨_, rfl, ?_⟩
      refine G_nil ⟨(Ext.refl _), ?_⟩
      refine A_act 5 rfl ?_
      refine s_call rfl cl_ref1_turn (ref1_turn_ok _ _ (by decide)) ?_
      rintro _ _ ⟨rfl, rfl⟩
      refine ⟨_, rfl, ?_⟩
      refine G_nil ⟨(Ext.refl _), ?_⟩
      refine A_take 6 rfl (y_bin rfl rfl (fun _ => v_xor32 _ _)) (Ext.refl _) (fun _ _ _ h => h) ?_
      refine A_act 9 rfl ?_
      refine s_call rfl cl_ref1_turn (ref1_turn_ok _ _ (by decide)) ?_
      rintro _ _ ⟨rfl, rfl⟩
      refine ⟨_, rfl, ?_⟩
      refine G_nil ⟨(Ext.refl _), ?_⟩
      refine A_take 10 rfl (y_bin rfl rfl (fun _ => v_xor32 _ _)) (Ext.refl _) (fun _ _ _ h => h) ?_
      refine A_take 12 rfl (y_bin rfl rfl (fun _ => v_add32 _ _)) (Ext.refl _) (fun _ _ _ h => h) ?_
      refine A_take 13 rfl (y_assign rfl) (Ext.refl _) (fun _ _ _ h => h) ?_
      refine A_done ?_
      refine C_seq ?_
      refine C_seq ?_
      refine C_region ?_
      refine s_v (y_assign rfl) ?_
      refine G_nil ?_
      refine C_block ?_
      refine C_loop (α := Nat) (fun j => [(2, kv), (3, .pointer (some ⟨g3, 0, none⟩)), (4, .pointer (some ⟨g4, 0, none⟩)), (6, .pointer (some ⟨g6, 0, none⟩)), (10, .pointer (some ⟨g10, 0, none⟩)), (11, iv (k : Int)), (14, u32v (q + (rotr e 6 ^^^ rotr e 11 ^^^ rotr e 25) + (e &&& f ^^^ ~~~e &&& g) + shaK.getD k 0 + (sched bs 64).getD k 0)), (15, u32v ((rotr a 2 ^^^ rotr a 13 ^^^ rotr a 22) + (a &&& b ^^^ a &&& c ^^^ b &&& c))), (16, iv (j : Int))]) (fun j w' => j ≤ 7 ∧ Blk w' g10 ty_a8_uint32 ((shl8 [a, b, c, d, e, f, g, q] j).map u32v) ∧ Blk w' g4 ty_a64_uint32 ((sched bs 64).map u32v) ∧ Blk w' g3 ty_a8_uint32 (h.map u32v) ∧ Blk w' g6 ty_a8_uint32 ((List.replicate 8 (0 : UInt32)).map u32v) ∧ Below w.heap.size w w') (fun j => j) 7 (.cons rfl (.cons rfl (.cons rfl (.cons rfl (.cons rfl (.cons rfl (.cons rfl (.cons rfl (.cons rfl (.nil)))))))))) ⟨Nat.le_refl _, (hw10.ext ((Ext.drew wL2).trans (Ext.drew wL2.drew))), (hw4.ext ((Ext.drew wL2).trans (Ext.drew wL2.drew))), (hw3.ext ((Ext.drew wL2).trans (Ext.drew wL2.drew))), (hw6.ext ((Ext.drew wL2).trans (Ext.drew wL2.drew))), hBd14⟩ ?_
      rintro j wL4 ⟨hj, hw10, hw4, hw3, hw6, hBL⟩
      refine C_seq ?_
      refine C_seq ?_
      refine C_region ?_
      refine s_v (y_move rfl) ?_
      refine s_v (y_bin rfl rfl (fun _ => v_gtr)) ?_
      refine G_nil ?_
      refine C_if rfl (fun hc132 => ?_) (fun hc132 => ?_)
      · skip
        obtain ⟨hj1, hj2, hj3⟩ := shl8_ok a b c d e f g q j (by omega) hj
        refine C_skip ?_
        refine C_seq ?_
        refine C_block ?_
        refine C_region ?_
        refine s_v (y_move rfl) ?_
        refine s_v (y_move rfl) ?_
        refine s_v (y_bin rfl rfl (fun _ => v_sub (by omega))) ?_
        refine s_v (y_idxB rfl rfl (by omega) (by omega) u_a8_uint32 i_uint32) ?_
        refine s_v (y_load rfl (fun _ e => e ▸ (hw10.el hj2 (by omega))) u_uint32) ?_
        refine s_v (y_idxB rfl rfl (by omega) (by omega) u_a8_uint32 i_uint32) ?_
        refine s_store rfl rfl hw10 i_uint32 rfl (by rw [List.length_map, hj3]; omega) rfl ?_
        intro w18_6 hg18_6 hk18_6
        have hb18_6 : Below w.heap.size wL4 w18_6 := (Below.refl _ _).grown hg18_6 hBL.size (fun k hk => by cases hk; exact hgB10)
        replace hk18_6 := blk_set hk18_6 (k := j) (by omega) (by rw [hj3]; omega)
        rw [hj1] at hk18_6
        refine G_nil ?_
        refine C_region ?_
        refine s_v (y_move rfl) ?_
        refine s_v (y_bin rfl rfl (fun _ => v_sub (by omega))) ?_
        refine s_v (y_assign rfl) ?_
        refine G_nil ?_
        refine ⟨j - 1, .cons rfl (.cons rfl (.cons rfl (.cons rfl (.cons rfl (.cons rfl (.cons rfl (.cons rfl (.cons (some_iv (by omega)) .nil)))))))), ⟨by omega, hk18_6, (hw4.far hg18_6 hne_g4_10), (hw3.far hg18_6 hne_g3_10), (hw6.far hg18_6 hne_g6_10), (Below.trans hBL hb18_6)⟩, by omega⟩
      · skip
        obtain rfl : j = 0 := by omega
        replace hw10 : Blk wL4 g10 ty_a8_uint32 ([a, a, b, c, d, e, f, g].map u32v) := hw10
        refine C_exit ?_
        refine C_seq ?_
        refine C_region ?_
        refine s_v (y_idxB rfl rfl (by omega) (by omega) u_a8_uint32 i_uint32) ?_
        refine s_v (y_load rfl (fun _ e => e ▸ (hw10.at_ _)) u_uint32) ?_
        refine s_v (y_move rfl) ?_
        refine s_v (y_bin rfl rfl (fun _ => v_add32 _ _)) ?_
        refine s_v (y_idxB rfl rfl (by omega) (by omega) u_a8_uint32 i_uint32) ?_
        refine s_store rfl rfl hw10 i_uint32 rfl (Nat.le_of_ble_eq_true rfl) rfl ?_
        intro w19_5 hg19_5 hk19_5
        have hb19_5 : Below w.heap.size wL4 w19_5 := (Below.refl _ _).grown hg19_5 hBL.size (fun k hk => by cases hk; exact hgB10)
        refine G_nil ?_
        refine C_region ?_
        refine s_v (y_move rfl) ?_
        refine s_v (y_move rfl) ?_
        refine s_v (y_bin rfl rfl (fun _ => v_add32 _ _)) ?_
        refine s_v (y_idxB rfl rfl (by omega) (by omega) u_a8_uint32 i_uint32) ?_
        refine s_store rfl rfl hk19_5 i_uint32 rfl (Nat.le_of_ble_eq_true rfl) rfl ?_
        intro w20_4 hg20_4 hk20_4
        have hb20_4 : Below w.heap.size w19_5 w20_4 := (Below.refl _ _).grown hg20_4 (Below.trans hBL hb19_5).size (fun k hk => by cases hk; exact hgB10)
        have hB20_4 : Below w.heap.size w w20_4 := (Below.trans (Below.trans hBL hb19_5) hb20_4)
        refine G_nil ?_
        refine C_region ?_
        refine s_v (y_move rfl) ?_
        refine s_v (y_bin rfl rfl (fun _ => v_add (by omega))) ?_
        refine s_v (y_assign rfl) ?_
        refine G_nil ?_
        have e1 : (q + (rotr e 6 ^^^ rotr e 11 ^^^ rotr e 25) + (e &&& f ^^^ ~~~e &&& g) + shaK.getD k 0 + (sched bs 64).getD k 0) = q + (rotr e 6 ^^^ rotr e 11 ^^^ rotr e 25) + (e &&& f ^^^ ~~~e &&& g) + (shaK.getD k 0 + (sched bs 64).getD k 0) := UInt32.add_assoc _ _ _
        replace hk20_4 : Blk _ g10 ty_a8_uint32 ([(q + (rotr e 6 ^^^ rotr e 11 ^^^ rotr e 25) + (e &&& f ^^^ ~~~e &&& g) + shaK.getD k 0 + (sched bs 64).getD k 0) + ((rotr a 2 ^^^ rotr a 13 ^^^ rotr a 22) + (a &&& b ^^^ a &&& c ^^^ b &&& c)), a, b, c, d + (q + (rotr e 6 ^^^ rotr e 11 ^^^ rotr e 25) + (e &&& f ^^^ ~~~e &&& g) + shaK.getD k 0 + (sched bs 64).getD k 0), e, f, g].map u32v) := hk20_4
        rw [e1] at hk20_4
        have e2 : roundsS h bs (k + 1) = [q + (rotr e 6 ^^^ rotr e 11 ^^^ rotr e 25) + (e &&& f ^^^ ~~~e &&& g) + (shaK.getD k 0 + (sched bs 64).getD k 0) + ((rotr a 2 ^^^ rotr a 13 ^^^ rotr a 22) + (a &&& b ^^^ a &&& c ^^^ b &&& c)), a, b, c, d + (q + (rotr e 6 ^^^ rotr e 11 ^^^ rotr e 25) + (e &&& f ^^^ ~~~e &&& g) + (shaK.getD k 0 + (sched bs 64).getD k 0)), e, f, g] := by rw [roundsS, hR]; rfl
        rw [← e2] at hk20_4
        refine ⟨k + 1, .cons rfl (.cons rfl (.cons rfl (.cons rfl (.cons rfl (.cons rfl .nil))))), ⟨by omega, hk20_4, ((hw4.far hg19_5 hne_g4_10).far hg20_4 hne_g4_10), ((hw3.far hg19_5 hne_g3_10).far hg20_4 hne_g3_10), ((hw6.far hg19_5 hne_g6_10).far hg20_4 hne_g6_10), hB20_4⟩, by omega⟩
    · skip
      obtain rfl : k = 64 := by omega
      refine C_exit ?_
      refine C_seq ?_
      refine C_seq ?_
      refine C_region ?_
      refine s_v (y_assign rfl) ?_
      refine G_nil ?_
      refine C_block ?_
      refine C_loop (α := Nat) (fun k => [(3, .pointer (some ⟨g3, 0, none⟩)), (6, .pointer (some ⟨g6, 0, none⟩)), (10, .pointer (some ⟨g10, 0, none⟩)), (17, iv (k : Int))]) (fun k w' => k ≤ 8 ∧ Blk w' g10 ty_a8_uint32 ((addTo (roundsS h bs 64) h k).map u32v) ∧ Blk w' g3 ty_a8_uint32 (h.map u32v) ∧ Blk w' g6 ty_a8_uint32 ((List.replicate 8 (0 : UInt32)).map u32v) ∧ Below w.heap.size w w') (fun k => 8 - k) 0 (.cons rfl (.cons rfl (.cons rfl (.cons rfl (.nil))))) ⟨Nat.zero_le _, by simpa [addTo] using hw10, hw3, hw6, hBL⟩ ?_
      rintro k wL6 ⟨hk, hw10, hw3, hw6, hBL⟩
      refine C_seq ?_
      refine C_seq ?_
      refine C_region ?_
      refine s_v (y_move rfl) ?_
      refine s_v (y_bin rfl rfl (fun _ => v_lss)) ?_
      refine G_nil ?_
      refine C_if rfl (fun hc151 => ?_) (fun hc151 => ?_)
      · skip
        replace hk : k < 8 := by omega
        obtain ⟨x, hxk⟩ : ∃ x, h[k]? = some x := ⟨_, List.getElem?_eq_getElem (by omega)⟩
        obtain ⟨y, hyk⟩ : ∃ y, (roundsS h bs 64)[k]? = some y := ⟨_, List.getElem?_eq_getElem (by rw [roundsS_len hh]; omega)⟩
        refine C_skip ?_
        refine C_seq ?_
        refine C_block ?_
        have hSd : (fun w' => Blk w' g3 ty_a8_uint32 (h.map u32v)) wL6.drew := hw3
        refine C_draw (S := fun w' => Blk w' g3 ty_a8_uint32 (h.map u32v)) rfl rfl ?_
        refine A_take 0 rfl (y_move rfl) hSd (fun _ _ _ h => h) ?_
        refine A_take 1 rfl (y_move rfl) hSd (fun _ _ _ h => h) ?_
        refine A_take 2 rfl (y_idxB rfl rfl (by omega) (by omega) u_a8_uint32 i_uint32) hSd (fun _ _ _ h => h) ?_
        refine A_take 4 rfl (y_move rfl) hSd (fun _ _ _ h => h) ?_
        refine A_take 5 rfl (y_idxB rfl rfl (by omega) (by omega) u_a8_uint32 i_uint32) hSd (fun _ _ _ h => h) ?_
        refine A_take 6 rfl (y_load rfl (fun _ e => (e.el hxk (by omega))) u_uint32) hSd (fun _ _ _ h => h) ?_
        refine A_act 3 rfl ?_
        refine s_v (y_load rfl (fun _ e => e ▸ ((hw10.ext (Ext.drew wL6)).el (addTo_get (by rw [hh, roundsS_len hh]) hyk) (by omega))) u_uint32) ?_
        refine G_nil ⟨hSd, ?_⟩
        refine A_take 7 rfl (y_bin rfl rfl (fun _ => v_add32 _ _)) hSd (fun _ _ _ h => h) ?_
        refine A_take 8 rfl (y_idxB rfl rfl (by omega) (by omega) u_a8_uint32 i_uint32) hSd (fun _ _ _ h => h) ?_
        refine A_act 9 rfl ?_
        refine s_store rfl rfl (hw10.ext (Ext.drew wL6)) i_uint32 rfl (by rw [List.length_map, addTo_len (by rw [hh, roundsS_len hh]), roundsS_len hh]; omega) rfl ?_
        intro w24_9 hg24_9 hk24_9
        have hb24_9 : Below w.heap.size wL6.drew w24_9 := (Below.refl _ _).grown hg24_9 (Below.ext hBL (Ext.drew wL6) hBL.size).size (fun k hk => by cases hk; exact hgB10)
        have hB24_9 : Below w.heap.size w w24_9 := (Below.trans (Below.ext hBL (Ext.drew wL6) hBL.size) hb24_9)
        replace hk24_9 := blk_set hk24_9 (k := k) (by omega) (by rw [addTo_len (by rw [hh, roundsS_len hh]), roundsS_len hh]; omega)
        rw [addTo_step (by rw [hh, roundsS_len hh]) hyk hxk] at hk24_9
        have hSd9 : (fun w' => Blk w' g3 ty_a8_uint32 (h.map u32v)) w24_9 := ((hw3.ext (Ext.drew wL6)).far hg24_9 hne_g3_10)
        refine G_nil ⟨hSd9, ?_⟩
        refine A_done ?_
        refine C_region ?_
        refine s_v (y_move rfl) ?_
        refine s_v (y_bin rfl rfl (fun _ => v_add (by omega))) ?_
        refine s_v (y_assign rfl) ?_
        refine G_nil ?_
        refine ⟨k + 1, .cons rfl (.cons rfl (.cons rfl (.cons rfl .nil))), ⟨by omega, hk24_9, ((hw3.ext (Ext.drew wL6)).far hg24_9 hne_g3_10), ((hw6.ext (Ext.drew wL6)).far hg24_9 hne_g6_10), hB24_9⟩, by omega⟩
      · skip
        obtain rfl : k = 8 := by omega
        refine C_exit ?_
        refine C_seq ?_
        refine C_region ?_
        refine s_v (y_loadA rfl (fun _ e => e ▸ (hw10.cells)) u_a8_uint32 i_a8_uint32 (by simp [addTo_len, hh, roundsS_len hh])) ?_
        refine s_store rfl rfl hw6 i_a8_uint32 (by simp [Value.cells, addTo_len, hh, roundsS_len hh]) (Nat.le_of_ble_eq_true rfl) (one_map (fun _ => rfl) _) ?_
        intro w25_1 hg25_1 hk25_1
        have hb25_1 : Below w.heap.size wL6 w25_1 := (Below.refl _ _).grown hg25_1 hBL.size (fun k hk => by cases hk; exact hgB6)
        replace hk25_1 := hk25_1.whole (es := (mixS h bs).map u32v) (by simp [Value.cells]) (by simp [Value.cells]; rw [addTo_all (by rw [hh, roundsS_len hh]) (roundsS_len hh _ _), zip_comm]; rfl)
        refine G_nil ?_
        refine C_ret ?_
        exact ⟨_, (.cell rfl (ldA (hk25_1.at_ _) u_a8_uint32 i_a8_uint32 (by simp [mixS_len hh])) .nil), rfl, (Below.trans hBL hb25_1)⟩

theorem ref1_Sha_ok {F : Nat → Prop} {w : World} {v : Value} {bs : List UInt8} (hv : Kd.u8.Sl F w v bs) (hl : bs.length ≤ 2 ^ 37) :
    Calls Pr N_ref1_Sha #[v] w fun e w' => e = .returned (.agg ((shaS bs).map u8v).toArray) ∧ Ext w w' := by
  suffices H : ∀ F : Nat → Prop, (∀ k, w.heap.size ≤ k → F k) → Kd.u8.Sl F w v bs → Calls Pr N_ref1_Sha #[v] w fun e w' => e = .returned (.agg ((shaS bs).map u8v).toArray) ∧ Ext w w' from H (fun _ => True) (fun _ _ => trivial) (hv.mono fun _ _ _ => trivial)
  clear hv F
  intro F hF hv
  refine calls (args := [v]) fn_ref1_Sha rfl rfl rfl rfl ?_
  refine C_seq ?_
  refine C_region ?_
  refine s_alloc i_api_Key ?_
  intro g2 w2 hgB2 hx2 hk2
  have hgb2 := hgB2
  refine G_nil ?_
  refine C_seq ?_
  refine C_region ?_
  refine s_call rfl cl_ref1_Written (ref1_Written_ok (F := F) ) ?_
  rintro _ w15 ⟨v15, rfl, h15, hx15⟩
  refine ⟨_, rfl, ?_⟩
  have hO15 := h15
  replace h15 := h15.lower hx2.size
  refine s_v (y_move rfl) ?_
  refine s_v (y_extract rfl rfl) ?_
  refine s_v (y_extract rfl rfl) ?_
  refine s_alloc i_a8_uint32 ?_
  intro g4 w4 hgB4 hx4 hk4
  have hne_g2_4 : g2 ≠ g4 := Nat.ne_of_lt (Nat.lt_of_lt_of_le (hk2.ext hx15).lt hgB4)
  have hgb4 := hgB4
  replace hgB4 := Nat.le_trans (Below.ext hx2 hx15 hx2.size).size hgB4
  have hB4 : Below w.heap.size w w4 := (Below.ext (Below.ext hx2 hx15 hx2.size) hx4 (Below.ext hx2 hx15 hx2.size).size)
  refine s_v (y_assign rfl) ?_
  refine s_store rfl rfl hk4 i_a8_uint32 rfl (Nat.le_of_ble_eq_true rfl) rfl ?_
  intro w1_6 hg1_6 hk1_6
  have hb1_6 : Below w.heap.size w4 w1_6 := (Below.refl _ _).grown hg1_6 hB4.size (fun k hk => by cases hk; exact hgB4)
  replace hk1_6 : Blk w1_6 g4 ty_a8_uint32 (shaH.map u32v) := hk1_6.whole rfl (by simp [Value.cells])
  refine G_nil ?_
  refine C_seq ?_
  refine C_region ?_
  refine s_v (y_move rfl) ?_
  refine s_append (K := Kd.u8) rfl rfl (Kd.Own.nil Kd.u8 F w.heap.size ty_uint8 w1_6) (hv.keep fun k hk _ => (Below.trans hB4 hb1_6).block k hk) u_sl_uint8 i_uint8 rfl flat_u8 (by simp [maxLen]; omega) (by simp; omega) (Below.trans hB4 hb1_6).size ?_
  intro v19 w19 h19 hg19 hb19
  have hB19 : Below w.heap.size w w19 := (Below.trans (Below.trans hB4 hb1_6) hb19)
  refine s_lit (K := Kd.u8) (F := F) (xs := [128]) rfl rfl rfl rfl u_sl_uint8 i_uint8 rfl (by decide) (by decide) (by simp [Value.cells, Kd.u8, Kd.flat]) (Kd.Els.lits rfl) ?_
  intro v20 w20 h20 hx20
  refine s_append (K := Kd.u8) rfl rfl (h19.ext hx20) ((h20.lower hB19.size).sl (fun k hk => hF k hk)) u_sl_uint8 i_uint8 rfl flat_u8 (by simp [maxLen]; omega) (by simp; omega) (Below.ext hB19 hx20 hB19.size).size ?_
  intro v21 w21 h21 hg21 hb21
  have hB21 : Below w.heap.size w w21 := (Below.trans (Below.ext hB19 hx20 hB19.size) hb21)
  refine s_v (y_assign rfl) ?_
  refine G_nil ?_
  refine C_seq ?_
  refine C_block ?_
  refine C_loop (α := Nat × Value) (fun (j, u) => [(0, v), (2, .pointer (some ⟨g2, 0, none⟩)), (3, v15), (4, .pointer (some ⟨g4, 0, none⟩)), (5, u)]) (fun (j, u) w' => j ≤ padZ bs.length ∧ Kd.u8.Own F w.heap.size ty_uint8 w' u (bs ++ [128] ++ List.replicate j 0) ∧ Kd.u32.Own F w.heap.size ty_uint32 w' v15 shaK ∧ Blk w' g4 ty_a8_uint32 (shaH.map u32v) ∧ Blk w' g2 ty_api_Key ((List.replicate 32 (0 : UInt8)).map u8v) ∧ Below w.heap.size w w') (fun (j, u) => padZ bs.length - j) (0, v21) (.cons rfl (.cons rfl (.cons rfl (.cons rfl (.cons rfl (.nil)))))) ⟨Nat.zero_le _, by simpa using h21, (((((h15.ext hx4).kb hk4 flat_u32 hg1_6 (by decide)).ko (Kd.Own.nil Kd.u8 F w.heap.size ty_uint8 w1_6) flat_u32 hg19 (by decide)).ext hx20).ko (h19.ext hx20) flat_u32 hg21 (by decide)), (((hk1_6.kd (Kd.Own.nil Kd.u8 F w.heap.size ty_uint8 w1_6) hg19 (by decide)).ext hx20).kd (h19.ext hx20) hg21 (by decide)), ((((((hk2.ext hx15).ext hx4).far hg1_6 hne_g2_4).kd (Kd.Own.nil Kd.u8 F w.heap.size ty_uint8 w1_6) hg19 (by decide)).ext hx20).kd (h19.ext hx20) hg21 (by decide)), hB21⟩ ?_
  rintro ⟨j, u⟩ wL0 ⟨hj, hu, hk3, hw4, hw2, hBL⟩
  have hpz : padZ bs.length < 64 := Nat.mod_lt _ (by decide)
  have hlen : (bs ++ [128] ++ List.replicate j (0 : UInt8)).length = bs.length + 1 + j := by simp; omega
  refine C_seq ?_
  refine C_seq ?_
  refine C_region ?_
  refine s_v (y_move rfl) ?_
  refine s_v (y_len_own rfl hu u_sl_uint8) ?_
  refine s_v (y_bin rfl rfl (fun _ => v_add (by omega))) ?_
  refine s_v (y_bin rfl rfl (fun _ => v_rem (by omega) (by omega))) ?_
  refine s_v (y_bin rfl rfl (fun _ => v_gtr)) ?_
  refine G_nil ?_
  refine C_if rfl (fun hc26 => ?_) (fun hc26 => ?_)
  · skip
    refine C_skip ?_
    refine C_block ?_
    refine C_region ?_
    refine s_v (y_move rfl) ?_
    refine s_lit (K := Kd.u8) (F := F) (xs := [0]) rfl rfl rfl rfl u_sl_uint8 i_uint8 rfl (by decide) (by decide) (by simp [Value.cells, Kd.u8, Kd.flat]) (Kd.Els.lits rfl) ?_
    intro v28 w28 h28 hx28
    refine s_append (K := Kd.u8) rfl rfl (hu.ext hx28) ((h28.lower hBL.size).sl (fun k hk => hF k hk)) u_sl_uint8 i_uint8 rfl flat_u8 (by simp [maxLen]; omega) (by simp; omega) (Below.ext hBL hx28 hBL.size).size ?_
    intro v29 w29 h29 hg29 hb29
    have hB29 : Below w.heap.size w w29 := (Below.trans (Below.ext hBL hx28 hBL.size) hb29)
    refine s_v (y_assign rfl) ?_
    refine G_nil ?_
    refine ⟨(j + 1, v29), .cons rfl (.cons rfl (.cons rfl (.cons rfl (.cons rfl .nil)))), ⟨?_, ?_, ((hk3.ext hx28).ko (hu.ext hx28) flat_u32 hg29 (by decide)), ((hw4.ext hx28).kd (hu.ext hx28) hg29 (by decide)), ((hw2.ext hx28).kd (hu.ext hx28) hg29 (by decide)), hB29⟩, ?_⟩
    · unfold padZ at hj ⊢; omega
    · rw [List.replicate_succ', ← List.append_assoc]; exact h29
    · unfold padZ at hj ⊢; simp only []; omega
  · skip
    obtain rfl : j = padZ bs.length := by (unfold padZ at *; omega)
    refine C_exit ?_
    refine C_seq ?_
    refine C_region ?_
    refine s_v (y_move rfl) ?_
    refine s_v (y_move rfl) ?_
    refine s_v (y_len rfl hv u_sl_uint8) ?_
    refine s_v (y_conv rfl (cv_i64_u64 rfl u_int u_uint64)) ?_
    refine s_v (y_bin rfl rfl (fun _ => v_shl64 _ 3 (by decide))) ?_
    refine s_call rfl cl_ref1_Put64 (ref1_Put64_ok _ (fun k hk => hF k (Nat.le_trans hBL.size hk)) (hu.sl (fun k hk => hF k hk)) (by simp; omega)) ?_
    rintro _ w35 ⟨v35, rfl, h35, hx35⟩
    refine ⟨_, rfl, ?_⟩
    have hO35 := h35
    replace h35 := h35.lower hBL.size
    have hsa : Kd.u8.Sl (fun q => g4 < q ∧ q < w35.heap.size) w35 v35 (padS bs) := ((hO35.flat flat_u8).sl (fun q hq => hq)).mono fun q hq hF => ⟨Nat.lt_of_lt_of_le hw4.lt hF, hq⟩
    refine s_v (y_assign rfl) ?_
    refine G_nil ?_
    refine C_seq ?_
    refine C_block ?_
    refine C_loop (α := Nat × Value) (fun (k, a) => [(2, .pointer (some ⟨g2, 0, none⟩)), (3, v15), (4, .pointer (some ⟨g4, 0, none⟩)), (5, a)]) (fun (k, a) w' => 64 * k ≤ (padS bs).length ∧ Kd.u8.Sl (fun q => g4 < q ∧ q < w35.heap.size) w' a ((padS bs).drop (64 * k)) ∧ Kd.u32.Own F w.heap.size ty_uint32 w' v15 shaK ∧ Blk w' g4 ty_a8_uint32 ((blocksS shaH (padS bs) k).map u32v) ∧ Blk w' g2 ty_api_Key ((List.replicate 32 (0 : UInt8)).map u8v) ∧ Below w.heap.size w w' ∧ w35.heap.size ≤ w'.heap.size) (fun (k, a) => (padS bs).length / 64 - k) (0, v35) (.cons rfl (.cons rfl (.cons rfl (.cons rfl (.nil))))) ⟨by omega, by simpa using hsa, (hk3.ext hx35), (hw4.ext hx35), (hw2.ext hx35), (Below.ext hBL hx35 hBL.size), Nat.le_refl _⟩ ?_
    rintro ⟨k, a⟩ wL2 ⟨hk, hsA, hk3, hw4, hw2, hBL, hzL2⟩
    have hpm := padS_mod bs
    have hpl := padS_len bs
    have hdl : ((padS bs).drop (64 * k)).length = (padS bs).length - 64 * k := List.length_drop
    refine C_seq ?_
    refine C_seq ?_
    refine C_region ?_
    refine s_v (y_move rfl) ?_
    refine s_v (y_len rfl hsA u_sl_uint8) ?_
    refine s_v (y_bin rfl rfl (fun _ => v_gtr)) ?_
    refine G_nil ?_
    refine C_if rfl (fun hc38 => ?_) (fun hc38 => ?_)
    · skip
      replace hk : 64 * k + 64 ≤ (padS bs).length := by omega
      refine C_skip ?_
      refine C_block ?_
      refine C_seq ?_
      refine C_region ?_
      refine s_alloc i_a64_uint32 ?_
      intro g6 w6 hgB6 hx6 hk6
      have hne_g2_6 : g2 ≠ g6 := Nat.ne_of_lt (Nat.lt_of_lt_of_le hw2.lt hgB6)
      have hne_g4_6 : g4 ≠ g6 := Nat.ne_of_lt (Nat.lt_of_lt_of_le hw4.lt hgB6)
      have hgb6 := hgB6
      replace hgB6 := Nat.le_trans hBL.size hgB6
      refine G_nil ?_
      refine C_seq ?_
      refine C_seq ?_
      refine C_region ?_
      refine s_v (y_assign rfl) ?_
      refine G_nil ?_
      refine C_block ?_
      refine C_loop (α := Nat) (fun i => [(2, .pointer (some ⟨g2, 0, none⟩)), (3, v15), (4, .pointer (some ⟨g4, 0, none⟩)), (5, a), (6, .pointer (some ⟨g6, 0, none⟩)), (7, iv (i : Int))]) (fun i w' => i ≤ 16 ∧ Blk w' g6 ty_a64_uint32 ((sched ((padS bs).drop (64 * k)) i ++ List.replicate (64 - i) 0).map u32v) ∧ Kd.u8.Sl (fun q => g4 < q ∧ q < w35.heap.size) w' a ((padS bs).drop (64 * k)) ∧ Kd.u32.Own F w.heap.size ty_uint32 w' v15 shaK ∧ Blk w' g4 ty_a8_uint32 ((blocksS shaH (padS bs) k).map u32v) ∧ Blk w' g2 ty_api_Key ((List.replicate 32 (0 : UInt8)).map u8v) ∧ Below w.heap.size w w' ∧ w35.heap.size ≤ w'.heap.size) (fun i => 16 - i) 0 (.cons rfl (.cons rfl (.cons rfl (.cons rfl (.cons rfl (.cons rfl (.nil))))))) ⟨Nat.zero_le _, hk6, (hsA.ext hx6), (hk3.ext hx6), (hw4.ext hx6), (hw2.ext hx6), (Below.ext hBL hx6 hBL.size), Nat.le_trans hzL2 hx6.size⟩ ?_
      rintro i wL4 ⟨hi, hw6, hsA, hk3, hw4, hw2, hBL, hzL4⟩
      refine C_seq ?_
      refine C_seq ?_
      refine C_region ?_
      refine s_v (y_move rfl) ?_
      refine s_v (y_bin rfl rfl (fun _ => v_lss)) ?_
      refine G_nil ?_
      refine C_if rfl (fun hc40 => ?_) (fun hc40 => ?_)
      · skip
        refine C_skip ?_
        refine C_seq ?_
        refine C_block ?_
        refine C_seq ?_
        refine C_region ?_
        refine s_v (y_move rfl) ?_
        refine s_v (y_move rfl) ?_
        refine s_v (y_bin rfl rfl (fun _ => v_mul (by omega))) ?_
        refine s_call rfl cl_ref1_Get32 (ref1_Get32_ok (by omega) (by omega) hsA (by omega)) ?_
        rintro _ _ ⟨rfl, rfl⟩
        refine ⟨_, rfl, ?_⟩
        refine s_v (y_move rfl) ?_
        refine s_v (y_extract rfl rfl) ?_
        refine s_v (y_extract rfl rfl) ?_
        refine s_v (y_assign rfl) ?_
        refine s_v (y_assign rfl) ?_
        refine G_nil ?_
        refine C_region ?_
        refine s_v (y_move rfl) ?_
        refine s_v (y_move rfl) ?_
        refine s_v (y_idxB rfl rfl (by omega) (by omega) u_a64_uint32 i_uint32) ?_
        refine s_store rfl rfl hw6 i_uint32 rfl (by simp [sched_len]; omega) rfl ?_
        intro w12_3 hg12_3 hk12_3
        have hb12_3 : Below w.heap.size wL4 w12_3 := (Below.refl _ _).grown hg12_3 hBL.size (fun k hk => by cases hk; exact hgB6)
        replace hk12_3 := blk_set hk12_3 (k := i) (by omega) (by simp [sched_len]; omega)
        rw [show (getS ((padS bs).drop (64 * k)) (4 * (i : Int)) 4).1.toUInt32 = nextW ((padS bs).drop (64 * k)) (sched ((padS bs).drop (64 * k)) i) from by unfold nextW; rw [if_pos (by rw [sched_len]; omega), sched_len], sched_full _ i (by omega)] at hk12_3
        refine G_nil ?_
        refine C_region ?_
        refine s_v (y_move rfl) ?_
        refine s_v (y_bin rfl rfl (fun _ => v_add (by omega))) ?_
        refine s_v (y_assign rfl) ?_
        refine G_nil ?_
        refine ⟨i + 1, .cons rfl (.cons rfl (.cons rfl (.cons rfl (.cons rfl (.cons rfl .nil))))), ⟨by omega, ?_, (hsA.keep fun q hq hF => hg12_3.block q hq (fun e => by obtain ⟨hF1, hF2⟩ := hF; cases e; omega)), (hk3.kb hw6 flat_u32 hg12_3 (by decide)), (hw4.far hg12_3 hne_g4_6), (hw2.far hg12_3 hne_g2_6), (Below.trans hBL hb12_3), ?_⟩, by omega⟩
        · rw [show 64 - (i + 1) = 63 - i from by omega]; exact hk12_3
        · exact Nat.le_trans hzL4 hb12_3.size
      · skip
        obtain rfl : i = 16 := by omega
        refine C_exit ?_
        refine C_seq ?_
        refine C_region ?_
        refine s_v (y_loadA rfl (fun _ e => e ▸ hw4.cells) u_a8_uint32 i_a8_uint32 (by simp [blocksS_len (h := shaH) rfl])) ?_
        refine s_v (y_loadA rfl (fun _ e => e ▸ hw6.cells) u_a64_uint32 i_a64_uint32 (by simp [sched_len])) ?_
        refine s_v (y_move rfl) ?_
        refine s_call rfl cl_ref1_mixed (ref1_mixed_ok _ (blocksS_len rfl _ _) _ (show _ = sched ((padS bs).drop (64 * k)) 16 ++ List.replicate 48 0 from rfl) (hk3.sl (fun k hk => hF k hk))) ?_
        rintro _ w56 ⟨rfl, hx56⟩
        refine ⟨_, rfl, ?_⟩
        refine s_store rfl rfl (hw4.ext hx56) i_a8_uint32 (by simp [Value.cells, mixS_len (blocksS_len (h := shaH) rfl _ _)]) (by simp [blocksS_len (h := shaH) rfl]) (one_map (fun _ => rfl) _) ?_
        intro w13_4 hg13_4 hk13_4
        have hb13_4 : Below w.heap.size w56 w13_4 := (Below.refl _ _).grown hg13_4 (Below.ext hBL hx56 hBL.size).size (fun k hk => by cases hk; exact hgB4)
        have hB13_4 : Below w.heap.size w w13_4 := (Below.trans (Below.ext hBL hx56 hBL.size) hb13_4)
        have hbk : blocksS shaH (padS bs) (k + 1) = mixS (blocksS shaH (padS bs) k) ((padS bs).drop (64 * k)) := by rw [blocksS, List.drop_take, show 64 * k + 64 - 64 * k = 64 from by omega, mixS_take (by omega)]
        replace hk13_4 : Blk w13_4 g4 ty_a8_uint32 ((blocksS shaH (padS bs) (k + 1)).map u32v) := hk13_4.whole (by simp [blocksS_len (h := shaH) rfl]) (by simp [Value.cells, hbk])
        refine G_nil ?_
        refine C_region ?_
        refine s_v (y_move rfl) ?_
        refine s_reslice rfl ((hsA.ext hx56).keep fun q hq hF => hg13_4.block q hq (fun e => by obtain ⟨hF1, hF2⟩ := hF; cases e; omega)) (.inr ⟨_, rfl, rfl⟩) (.inl ⟨rfl, rfl⟩) (by omega) (by omega) (by omega) u_sl_uint8 i_uint8 ?_
        intro v58 h58
        refine s_v (y_assign rfl) ?_
        refine G_nil ?_
        refine ⟨(k + 1, v58), .cons rfl (.cons rfl (.cons rfl (.cons rfl .nil))), ⟨by omega, ?_, ((hk3.ext hx56).kb (hw4.ext hx56) flat_u32 hg13_4 (by decide)), hk13_4, ((hw2.ext hx56).far hg13_4 hne_g2_4), hB13_4, ?_⟩, by simp only []; omega⟩
        · have e9 := h58
          rw [List.take_of_length_le (by simp), show (64 : Int).toNat = 64 from rfl, List.drop_drop, show 64 * k + 64 = 64 * (k + 1) from by omega] at e9
          exact e9
        · have e8 := hb13_4.size
          have e7 := hx56.size
          omega
    · skip
      obtain rfl : k = (padS bs).length / 64 := by omega
      refine C_exit ?_
      refine C_seq ?_
      refine C_region ?_
      refine s_v (y_assign rfl) ?_
      refine G_nil ?_
      refine C_seq ?_
      refine C_seq ?_
      refine C_region ?_
      refine s_v (y_assign rfl) ?_
      refine G_nil ?_
      refine C_block ?_
      refine C_loop (α := Nat × Value) (fun (k, u) => [(2, .pointer (some ⟨g2, 0, none⟩)), (4, .pointer (some ⟨g4, 0, none⟩)), (10, u), (11, iv (k : Int))]) (fun (k, u) w' => k ≤ 8 ∧ Kd.u8.Own F w.heap.size ty_uint8 w' u (((blocksS shaH (padS bs) ((padS bs).length / 64)).take k).flatMap be32) ∧ Blk w' g4 ty_a8_uint32 ((blocksS shaH (padS bs) ((padS bs).length / 64)).map u32v) ∧ Blk w' g2 ty_api_Key ((List.replicate 32 (0 : UInt8)).map u8v) ∧ Below w.heap.size w w') (fun (k, u) => 8 - k) (0, .slice none 0 0) (.cons rfl (.cons rfl (.cons rfl (.cons rfl (.nil))))) ⟨Nat.zero_le _, Kd.Own.nil _ _ _ _ _, hw4, hw2, hBL⟩ ?_
      rintro ⟨k, u⟩ wL6 ⟨hk, hu, hw4, hw2, hBL⟩
      have hul : (((blocksS shaH (padS bs) ((padS bs).length / 64)).take k).flatMap be32).length ≤ 64 := by rw [be32s_len, List.length_take]; omega
      refine C_seq ?_
      refine C_seq ?_
      refine C_region ?_
      refine s_v (y_move rfl) ?_
      refine s_v (y_bin rfl rfl (fun _ => v_lss)) ?_
      refine G_nil ?_
      refine C_if rfl (fun hc60 => ?_) (fun hc60 => ?_)
      · skip
        replace hk : k < 8 := by omega
        obtain ⟨x, hxk⟩ : ∃ x, (blocksS shaH (padS bs) ((padS bs).length / 64))[k]? = some x := ⟨_, List.getElem?_eq_getElem (by rw [blocksS_len rfl]; omega)⟩
        refine C_skip ?_
        refine C_seq ?_
        refine C_block ?_
        refine C_region ?_
        refine s_v (y_move rfl) ?_
        refine s_v (y_move rfl) ?_
        refine s_v (y_idxB rfl rfl (by omega) (by omega) u_a8_uint32 i_uint32) ?_
        refine s_v (y_load rfl (fun _ e => e ▸ (hw4.el hxk (by omega))) u_uint32) ?_
        refine s_call rfl cl_ref1_Put32 (ref1_Put32_ok _ (fun k hk => hF k (Nat.le_trans hBL.size hk)) (hu.sl (fun k hk => hF k hk)) (by omega)) ?_
        rintro _ w67 ⟨v67, rfl, h67, hx67⟩
        refine ⟨_, rfl, ?_⟩
        have hO67 := h67
        replace h67 := h67.lower hBL.size
        refine s_v (y_assign rfl) ?_
        refine G_nil ?_
        refine C_region ?_
        refine s_v (y_move rfl) ?_
        refine s_v (y_bin rfl rfl (fun _ => v_add (by omega))) ?_
        refine s_v (y_assign rfl) ?_
        refine G_nil ?_
        refine ⟨(k + 1, v67), .cons rfl (.cons rfl (.cons rfl (.cons rfl .nil))), ⟨by omega, ?_, (hw4.ext hx67), (hw2.ext hx67), (Below.ext hBL hx67 hBL.size)⟩, by simp only []; omega⟩
        rw [take_snoc _ k x hxk, List.flatMap_append]
        simpa using h67
      · skip
        obtain rfl : k = 8 := by omega
        have hsh : ((blocksS shaH (padS bs) ((padS bs).length / 64)).take 8).flatMap be32 = shaS bs := by rw [List.take_of_length_le (by rw [blocksS_len rfl]; omega)]; rfl
        rw [hsh] at hu
        refine C_exit ?_
        refine C_seq ?_
        refine C_region ?_
        refine s_alloc i_api_Key ?_
        intro g12 w12 hgB12 hx12 hk12
        have hne_g2_12 : g2 ≠ g12 := Nat.ne_of_lt (Nat.lt_of_lt_of_le hw2.lt hgB12)
        have hne_g4_12 : g4 ≠ g12 := Nat.ne_of_lt (Nat.lt_of_lt_of_le hw4.lt hgB12)
        have hgb12 := hgB12
        replace hgB12 := Nat.le_trans hBL.size hgB12
        refine G_nil ?_
        refine C_seq ?_
        refine C_seq ?_
        refine C_region ?_
        refine s_v (y_assign rfl) ?_
        refine G_nil ?_
        refine C_block ?_
        refine C_loop (α := Nat) (fun i => [(2, .pointer (some ⟨g2, 0, none⟩)), (10, u), (12, .pointer (some ⟨g12, 0, none⟩)), (13, iv (i : Int))]) (fun i w' => i ≤ 32 ∧ Blk w' g12 ty_api_Key (((shaS bs).take i ++ List.replicate (32 - i) 0).map u8v) ∧ Kd.u8.Own F w.heap.size ty_uint8 w' u (shaS bs) ∧ Blk w' g2 ty_api_Key ((List.replicate 32 (0 : UInt8)).map u8v) ∧ Below w.heap.size w w') (fun i => 32 - i) 0 (.cons rfl (.cons rfl (.cons rfl (.cons rfl (.nil))))) ⟨Nat.zero_le _, hk12, (hu.ext hx12), (hw2.ext hx12), (Below.ext hBL hx12 hBL.size)⟩ ?_
        rintro i wL8 ⟨hi, hw12, hu, hw2, hBL⟩
        refine C_seq ?_
        refine C_seq ?_
        refine C_region ?_
        refine s_v (y_move rfl) ?_
        refine s_v (y_bin rfl rfl (fun _ => v_lss)) ?_
        refine G_nil ?_
        refine C_if rfl (fun hc69 => ?_) (fun hc69 => ?_)
        · skip
          replace hi : i < 32 := by omega
          obtain ⟨x, hxi⟩ : ∃ x, (shaS bs)[i]? = some x := ⟨_, List.getElem?_eq_getElem (by rw [shaS_len]; omega)⟩
          refine C_skip ?_
          refine C_seq ?_
          refine C_block ?_
          refine C_region ?_
          refine s_v (y_move rfl) ?_
          refine s_v (y_move rfl) ?_
          refine s_v (y_move rfl) ?_
          refine s_idx rfl rfl (hu.sl (fun k hk => hF k hk)) (by have := shaS_len bs; omega) hxi u_sl_uint8 i_uint8 ?_
          rintro ad75 _ hF75 rfl hc75
          refine s_v (y_load rfl (fun _ e => e ▸ hc75) u_uint8) ?_
          refine s_v (y_idxB rfl rfl (by omega) (by omega) u_api_Key i_uint8) ?_
          refine s_store rfl rfl hw12 i_uint8 rfl (by rw [List.length_map, List.length_append, List.length_take, List.length_replicate, shaS_len]; omega) rfl ?_
          intro w24_6 hg24_6 hk24_6
          have hb24_6 : Below w.heap.size wL8 w24_6 := (Below.refl _ _).grown hg24_6 hBL.size (fun k hk => by cases hk; exact hgB12)
          replace hk24_6 := blk_set hk24_6 (k := i) (by omega) (by rw [List.length_append, List.length_take, List.length_replicate, shaS_len]; omega)
          rw [fill_step (shaS_len bs) hxi] at hk24_6
          refine G_nil ?_
          refine C_region ?_
          refine s_v (y_move rfl) ?_
          refine s_v (y_bin rfl rfl (fun _ => v_add (by omega))) ?_
          refine s_v (y_assign rfl) ?_
          refine G_nil ?_
          refine ⟨i + 1, .cons rfl (.cons rfl (.cons rfl (.cons rfl .nil))), ⟨by omega, hk24_6, (hu.kb hw12 flat_u8 hg24_6 (by decide)), (hw2.far hg24_6 hne_g2_12), (Below.trans hBL hb24_6)⟩, by omega⟩
        · skip
          obtain rfl : i = 32 := by omega
          rw [List.take_of_length_le (by rw [shaS_len]; omega)] at hw12
          replace hw12 : Blk wL8 g12 ty_api_Key ((shaS bs).map u8v) := by simpa using hw12
          refine C_exit ?_
          refine C_seq ?_
          refine C_region ?_
          refine s_v (y_loadA rfl (fun _ e => e ▸ hw12.cells) u_api_Key i_api_Key (by simp [shaS_len])) ?_
          refine s_store rfl rfl hw2 i_api_Key (by simp [Value.cells, shaS_len]) (by simp) (one_map (fun _ => rfl) _) ?_
          intro w25_1 hg25_1 hk25_1
          have hb25_1 : Below w.heap.size wL8 w25_1 := (Below.refl _ _).grown hg25_1 hBL.size (fun k hk => by cases hk; exact hgB2)
          replace hk25_1 := hk25_1.whole (es := (shaS bs).map u8v) (by simp) (by simp [Value.cells, shaS_len])
          refine G_nil ?_
          refine C_ret ?_
          exact ⟨_, (.cell rfl (ldA (hk25_1.at_ _) u_api_Key i_api_Key (by simp [shaS_len])) .nil), rfl, (Below.trans hBL hb25_1)⟩

theorem ref1_Parts_ok {F : Nat → Prop} {w : World} {v : Value} {L : List (List UInt8)} (hF : ∀ k, w.heap.size ≤ k → F k) (hv : (Kd.slice Kd.u8).Sl F w v L) (hl : (partsS L).length ≤ 2 ^ 36) :
    Calls Pr N_ref1_Parts #[v] w fun e w' => e = .returned (.agg ((shaS (partsS L)).map u8v).toArray) ∧ Ext w w' := by
  refine calls (args := [v]) fn_ref1_Parts rfl rfl rfl rfl ?_
  refine C_seq ?_
  refine C_region ?_
  refine s_alloc i_api_Key ?_
  intro g2 w2 hgB2 hx2 hk2
  have hgb2 := hgB2
  refine G_nil ?_
  refine C_seq ?_
  refine C_region ?_
  refine s_v (y_assign rfl) ?_
  refine G_nil ?_
  refine C_seq ?_
  refine C_seq ?_
  refine C_region ?_
  refine s_v (y_assign rfl) ?_
  refine G_nil ?_
  refine C_block ?_
  refine C_loop (α := Nat × Value) (fun (k, u) => [(0, v), (2, .pointer (some ⟨g2, 0, none⟩)), (3, u), (4, iv (k : Int))]) (fun (k, u) w' => k ≤ L.length ∧ Kd.u8.Own F w.heap.size ty_uint8 w' u (partsS (L.take k)) ∧ Blk w' g2 ty_api_Key ((List.replicate 32 (0 : UInt8)).map u8v) ∧ Below w.heap.size w w') (fun (k, u) => L.length - k) (0, .slice none 0 0) (.cons rfl (.cons rfl (.cons rfl (.cons rfl (.nil))))) ⟨Nat.zero_le _, Kd.Own.nil _ _ _ _ _, hk2, hx2⟩ ?_
  rintro ⟨k, u⟩ wL0 ⟨hk, hu, hw2, hBL⟩
  have hvl := hv.len_le
  simp only [maxLen] at hvl
  refine C_seq ?_
  refine C_seq ?_
  refine C_region ?_
  refine s_v (y_move rfl) ?_
  refine s_v (y_move rfl) ?_
  refine s_v (y_len rfl hv u_sl_sl_uint8) ?_
  refine s_v (y_bin rfl rfl (fun _ => v_lss)) ?_
  refine G_nil ?_
  refine C_if rfl (fun hc8 => ?_) (fun hc8 => ?_)
  · skip
    replace hk : k < L.length := by omega
    obtain ⟨x, hxk⟩ : ∃ x, L[k]? = some x := ⟨_, List.getElem?_eq_getElem (by omega)⟩
    have hsn := partsS_snoc (L.take k) x
    rw [← take_snoc L k x hxk] at hsn
    have hle2 : (partsS (L.take (k + 1))).length ≤ (partsS L).length := by (have e : partsS L = partsS (L.take (k + 1)) ++ partsS (L.drop (k + 1)) := by unfold partsS; rw [← List.flatMap_append, List.take_append_drop]); rw [e, List.length_append]; omega
    rw [hsn] at hle2
    simp only [List.length_append, be64_len] at hle2
    refine C_skip ?_
    refine C_seq ?_
    refine C_block ?_
    have hSd : (fun w' => Below w.heap.size w w') wL0.drew := (Below.ext hBL (Ext.drew wL0) hBL.size)
    refine C_draw (S := fun w' => Below w.heap.size w w') rfl rfl ?_
    refine A_take 0 rfl (y_move rfl) hSd (fun _ _ _ h => h) ?_
    refine A_take 1 rfl (y_move rfl) hSd (fun _ _ _ h => h) ?_
    refine A_take 2 rfl (y_move rfl) hSd (fun _ _ _ h => h) ?_
    refine A_idx 3 rfl hv rfl rfl (by omega) hxk u_sl_sl_uint8 i_sl_uint8 hSd (fun _ _ _ h => h) ?_
    rintro ad14 _ hF14 ⟨v14, rfl, hs14⟩ hc14
    refine A_take 4 rfl (y_load rfl (fun _ e => (hc14.keep fun hk => e.block _ hk)) u_sl_uint8) hSd (fun _ _ _ h => h) ?_
    refine A_take 5 rfl (y_len rfl hs14 u_sl_uint8) hSd (fun _ _ _ h => h) ?_
    refine A_take 6 rfl (y_conv rfl (cv_i64_u64 rfl u_int u_uint64)) hSd (fun _ _ _ h => h) ?_
    refine A_take 8 rfl (y_move rfl) hSd (fun _ _ _ h => h) ?_
    refine A_take 9 rfl (y_move rfl) hSd (fun _ _ _ h => h) ?_
    refine A_idx 10 rfl hv rfl rfl (by omega) hxk u_sl_sl_uint8 i_sl_uint8 hSd (fun _ _ _ h => h) ?_
    rintro ad21 _ hF21 ⟨v21, rfl, hs21⟩ hc21
    refine A_take 11 rfl (y_load rfl (fun _ e => (hc21.keep fun hk => e.block _ hk)) u_sl_uint8) hSd (fun _ _ _ h => h) ?_
    refine A_act 7 rfl ?_
    refine s_call rfl cl_ref1_Put64 (ref1_Put64_ok _ (fun k hk => hF k (Nat.le_trans (Below.ext hBL (Ext.drew wL0) hBL.size).size hk)) ((hu.ext (Ext.drew wL0)).sl (fun k hk => hF k hk)) (by omega)) ?_
    rintro _ w18 ⟨v18, rfl, h18, hx18⟩
    refine ⟨_, rfl, ?_⟩
    have hB18 : Below w.heap.size w w18 := (Below.ext (Below.ext hBL (Ext.drew wL0) hBL.size) hx18 (Below.ext hBL (Ext.drew wL0) hBL.size).size)
    have hO18 := h18
    replace h18 := h18.lower (Below.ext hBL (Ext.drew wL0) hBL.size).size
    have hSd7 : (fun w' => Below w.heap.size w w') w18 := hB18
    refine G_nil ⟨hSd7, ?_⟩
    refine A_act 12 rfl ?_
    refine s_append (K := Kd.u8) rfl rfl h18 (hs21.keep fun k hk _ => hB18.block k hk) u_sl_uint8 i_uint8 rfl flat_u8 (by simp only [List.length_append, be64_len, maxLen]; omega) (by simp only [List.length_append, be64_len]; omega) hB18.size ?_
    intro v23 w23 h23 hg23 hb23
    have hSd12 : (fun w' => Below w.heap.size w w') w23 := (Below.trans hB18 hb23)
    refine G_nil ⟨hSd12, ?_⟩
    refine A_take 13 rfl (y_assign rfl) hSd12 (fun _ _ _ h => h) ?_
    refine A_done ?_
    refine C_region ?_
    refine s_v (y_move rfl) ?_
    refine s_v (y_bin rfl rfl (fun _ => v_add (by omega))) ?_
    refine s_v (y_assign rfl) ?_
    refine G_nil ?_
    refine ⟨(k + 1, v23), .cons rfl (.cons rfl (.cons rfl (.cons rfl .nil))), ⟨by omega, ?_, (((hw2.ext (Ext.drew wL0)).ext hx18).kd h18 hg23 (by decide)), (Below.trans hB18 hb23)⟩, by simp only []; omega⟩
    rw [hsn]
    exact h23
  · skip
    obtain rfl : k = L.length := by omega
    rw [List.take_length] at hu
    refine C_exit ?_
    refine C_seq ?_
    refine C_region ?_
    refine s_v (y_move rfl) ?_
    refine s_call rfl cl_ref1_Sha (ref1_Sha_ok (hu.sl (fun k hk => hF k hk)) (by omega)) ?_
    rintro _ w25 ⟨rfl, hx25⟩
    refine ⟨_, rfl, ?_⟩
    refine s_store rfl rfl (hw2.ext hx25) i_api_Key (by simp [Value.cells, shaS_len]) (by simp) (one_map (fun _ => rfl) _) ?_
    intro w6_2 hg6_2 hk6_2
    have hb6_2 : Below w.heap.size w25 w6_2 := (Below.refl _ _).grown hg6_2 (Below.ext hBL hx25 hBL.size).size (fun k hk => by cases hk; exact hgB2)
    have hB6_2 : Below w.heap.size w w6_2 := (Below.trans (Below.ext hBL hx25 hBL.size) hb6_2)
    replace hk6_2 := hk6_2.whole (es := (shaS (partsS L)).map u8v) (by simp) (by simp [Value.cells])
    refine G_nil ?_
    refine C_ret ?_
    exact ⟨_, (.cell rfl (ldA (hk6_2.at_ _) u_api_Key i_api_Key (by simp [shaS_len])) .nil), rfl, hB6_2⟩
end Go.Proofs.YtdaphjnenookiaaDoor
