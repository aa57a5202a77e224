/- What the program computes as the SHA-256 sum of bytes and of parts. -/
import Derived.Test.YtdaphjnenookiaaDoorProg
import Derived.Test.YtdaphjnenookiaaDoorNm
import Derived.Test.YtdaphjnenookiaaDoorwords
namespace Go.Proofs.YtdaphjnenookiaaDoor
open Go Go.RowKit Go.Proofs
set_option linter.unusedVariables false
set_option linter.unusedSimpArgs false
set_option maxRecDepth 4000


def shaK : List UInt32 := [1116352408, 1899447441, 3049323471, 3921009573, 961987163, 1508970993, 2453635748, 2870763221, 3624381080, 310598401, 607225278, 1426881987, 1925078388, 2162078206, 2614888103, 3248222580, 3835390401, 4022224774, 264347078, 604807628, 770255983, 1249150122, 1555081692, 1996064986, 2554220882, 2821834349, 2952996808, 3210313671, 3336571891, 3584528711, 113926993, 338241895, 666307205, 773529912, 1294757372, 1396182291, 1695183700, 1986661051, 2177026350, 2456956037, 2730485921, 2820302411, 3259730800, 3345764771, 3516065817, 3600352804, 4094571909, 275423344, 430227734, 506948616, 659060556, 883997877, 958139571, 1322822218, 1537002063, 1747873779, 1955562222, 2024104815, 2227730452, 2361852424, 2428436474, 2756734187, 3204031479, 3329325298]
def shaH : List UInt32 := [1779033703, 3144134277, 1013904242, 2773480762, 1359893119, 2600822924, 528734635, 1541459225]
def sig0 (x : UInt32) : UInt32 := rotr x 7 ^^^ rotr x 18 ^^^ x >>> 3
def sig1 (x : UInt32) : UInt32 := rotr x 17 ^^^ rotr x 19 ^^^ x >>> 10
/-- The next word of a block's schedule. -/
def nextW (b : List UInt8) (l : List UInt32) : UInt32 :=
  if l.length < 16 then (getS b (4 * l.length) 4).1.toUInt32
  else l.getD (l.length - 16) 0 + sig0 (l.getD (l.length - 15) 0) + l.getD (l.length - 7) 0 + sig1 (l.getD (l.length - 2) 0)
def sched (b : List UInt8) : Nat → List UInt32
  | 0 => []
  | k + 1 => sched b k ++ [nextW b (sched b k)]
theorem sched_len (b : List UInt8) : ∀ k, (sched b k).length = k
  | 0 => rfl
  | k + 1 => by simp [sched, sched_len b k]
theorem sched_get (b : List UInt8) {k j m : Nat} (h : j < k) (hm : k ≤ m) : (sched b m)[j]? = (sched b k)[j]? := by
  induction m with
  | zero => omega
  | succ m ih =>
    by_cases e : k = m + 1
    · rw [e]
    · rw [sched, List.getElem?_append_left (by rw [sched_len]; omega), ih (by omega)]
/-- A round. -/
def stepS (h : List UInt32) (k : UInt32) : List UInt32 :=
  match h with
  | [a, b, c, d, e, f, g, hh] =>
    let x := hh + (rotr e 6 ^^^ rotr e 11 ^^^ rotr e 25) + (e &&& f ^^^ ~~~e &&& g) + k
    let y := (rotr a 2 ^^^ rotr a 13 ^^^ rotr a 22) + (a &&& b ^^^ a &&& c ^^^ b &&& c)
    [x + y, a, b, c, d + x, e, f, g]
  | _ => []
theorem stepS_len {h : List UInt32} (hl : h.length = 8) (k : UInt32) : (stepS h k).length = 8 := by
  match h, hl with
  | [a, b, c, d, e, f, g, hh], _ => rfl
def roundsS (h : List UInt32) (b : List UInt8) : Nat → List UInt32
  | 0 => h
  | k + 1 => stepS (roundsS h b k) (shaK.getD k 0 + (sched b 64).getD k 0)
theorem roundsS_len {h : List UInt32} (hl : h.length = 8) (b : List UInt8) : ∀ k, (roundsS h b k).length = 8
  | 0 => hl
  | k + 1 => stepS_len (roundsS_len hl b k) _
def mixS (h : List UInt32) (b : List UInt8) : List UInt32 := List.zipWith (· + ·) h (roundsS h b 64)
theorem mixS_len {h : List UInt32} (hl : h.length = 8) (b : List UInt8) : (mixS h b).length = 8 := by simp [mixS, hl, roundsS_len hl]
/-- How many zeros go behind. -/
def padZ (n : Nat) : Nat := (119 - n % 64) % 64
def padS (bs : List UInt8) : List UInt8 := bs ++ [(128 : UInt8)] ++ List.replicate (padZ bs.length) (0 : UInt8) ++ be64 (UInt64.ofNat bs.length <<< 3)
theorem padS_len (bs : List UInt8) : (padS bs).length = bs.length + 9 + padZ bs.length := by simp [padS, be64_len]; omega
def blocksS (h : List UInt32) (b : List UInt8) : Nat → List UInt32
  | 0 => h
  | k + 1 => mixS (blocksS h b k) ((b.take (64 * k + 64)).drop (64 * k))
theorem blocksS_len {h : List UInt32} (hl : h.length = 8) (b : List UInt8) : ∀ k, (blocksS h b k).length = 8
  | 0 => hl
  | k + 1 => mixS_len (blocksS_len hl b k) _
/-- The sum. -/
def shaS (bs : List UInt8) : List UInt8 := (blocksS shaH (padS bs) ((padS bs).length / 64)).flatMap be32
theorem shaS_len (bs : List UInt8) : (shaS bs).length = 32 := by
  have h := blocksS_len (h := shaH) rfl (padS bs) ((padS bs).length / 64)
  unfold shaS
  generalize blocksS shaH (padS bs) ((padS bs).length / 64) = l at h
  match l, h with
  | [a, b, c, d, e, f, g, hh], _ => rfl
/-- Parts, each with its length ahead. -/
def partsS (l : List (List UInt8)) : List UInt8 := l.flatMap fun x => be64 (UInt64.ofNat x.length) ++ x
theorem set_map {α β : Type} (f : α → β) (l : List α) (k : Nat) (x : α) (h : k < l.length) : (l.map f).take k ++ [f x] ++ (l.map f).drop (k + 1) = (l.set k x).map f := by
  rw [List.map_set, List.set_eq_take_append_cons_drop, if_pos (by simpa using h)]
  simp
theorem blk_set {α : Type} {f : α → Value} {w : World} {g T : Nat} {l : List α} {o k : Nat} {x : α} (h : Blk w g T ((l.map f).take o ++ [f x] ++ (l.map f).drop (o + 1))) (ho : o = k) (hk : k < l.length) : Blk w g T ((l.set k x).map f) := by
  subst ho
  rwa [set_map f l o x hk] at h

theorem sha_numbers_ok {w : World} :
    Calls Pr N_sha_numbers #[] w fun e w' => e = .returned (.agg ((shaK).map u32v).toArray) ∧ Ext w w' := by
  refine calls (args := []) fn_sha_numbers rfl rfl rfl rfl ?_
  refine C_seq ?_
  refine C_region ?_
  refine s_alloc i_a64_uint32 ?_
  intro g0 w0 hgB0 hx0 hk0
  have hgb0 := hgB0
  refine G_nil ?_
  refine C_seq ?_
  refine C_region ?_
  refine s_v (y_buildA rfl rfl u_a64_uint32 i_a64_uint32 i_uint32 (by simp [Value.cells]) rfl) ?_
  refine s_store rfl rfl hk0 i_a64_uint32 rfl (Nat.le_of_ble_eq_true rfl) rfl ?_
  intro w1_1 hg1_1 hk1_1
  have hb1_1 : Below w.heap.size w0 w1_1 := (Below.refl _ _).grown hg1_1 hx0.size (fun k hk => by cases hk; exact hgB0)
  refine G_nil ?_
  refine C_ret ?_
  exact ⟨_, (.cell rfl (ldA (hk1_1.at_ _) u_a64_uint32 i_a64_uint32 rfl) .nil), rfl, (Below.trans hx0 hb1_1)⟩

theorem sha_first_ok {w : World} :
    Calls Pr N_sha_first #[] w fun e w' => e = .returned (.agg ((shaH).map u32v).toArray) ∧ Ext w w' := by
  refine calls (args := []) fn_sha_first rfl rfl rfl rfl ?_
  refine C_seq ?_
  refine C_region ?_
  refine s_alloc i_a8_uint32 ?_
  intro g0 w0 hgB0 hx0 hk0
  have hgb0 := hgB0
  refine G_nil ?_
  refine C_seq ?_
  refine C_region ?_
  refine s_v (y_buildA rfl rfl u_a8_uint32 i_a8_uint32 i_uint32 (by simp [Value.cells]) rfl) ?_
  refine s_store rfl rfl hk0 i_a8_uint32 rfl (Nat.le_of_ble_eq_true rfl) rfl ?_
  intro w1_1 hg1_1 hk1_1
  have hb1_1 : Below w.heap.size w0 w1_1 := (Below.refl _ _).grown hg1_1 hx0.size (fun k hk => by cases hk; exact hgB0)
  refine G_nil ?_
  refine C_ret ?_
  exact ⟨_, (.cell rfl (ldA (hk1_1.at_ _) u_a8_uint32 i_a8_uint32 rfl) .nil), rfl, (Below.trans hx0 hb1_1)⟩

theorem sha_padded_ok {F : Nat → Prop} {w : World} {v : Value} {bs : List UInt8} (hF : ∀ k, w.heap.size ≤ k → F k) (hv : Kd.u8.Sl F w v bs) (hl : bs.length ≤ 2 ^ 38) :
    Calls Pr N_sha_padded #[v] w fun e w' => ∃ r, e = .returned r ∧ Kd.u8.Own F w.heap.size ty_uint8 w' r (padS bs) ∧ Ext w w' := by
  refine calls (args := [v]) fn_sha_padded rfl rfl rfl rfl ?_
  refine C_seq ?_
  refine C_region ?_
  refine s_v (y_assign rfl) ?_
  refine G_nil ?_
  refine C_seq ?_
  refine C_region ?_
  refine s_v (y_move rfl) ?_
  refine s_append (K := Kd.u8) rfl rfl (Kd.Own.nil Kd.u8 F w.heap.size ty_uint8 w) hv u_sl_uint8 i_uint8 rfl flat_u8 (by simp [maxLen]; omega) (by simp; omega) (Nat.le_refl _) ?_
  intro v5 w5 h5 hg5 hb5
  refine s_lit (K := Kd.u8) (F := F) (xs := [128]) rfl rfl rfl rfl u_sl_uint8 i_uint8 rfl (by decide) (by decide) (by simp [Value.cells, Kd.u8, Kd.flat]) (Kd.Els.lits rfl) ?_
  intro v6 w6 h6 hx6
  refine s_append (K := Kd.u8) rfl rfl (h5.ext hx6) ((h6.lower hb5.size).sl (fun k hk => hF k hk)) u_sl_uint8 i_uint8 rfl flat_u8 (by simp [maxLen]; omega) (by simp; omega) (Below.ext hb5 hx6 hb5.size).size ?_
  intro v7 w7 h7 hg7 hb7
  have hB7 : Below w.heap.size w w7 := (Below.trans (Below.ext hb5 hx6 hb5.size) hb7)
  refine s_v (y_assign rfl) ?_
  refine G_nil ?_
  refine C_seq ?_
  refine C_block ?_
  refine C_loop (α := Nat × Value) (fun (j, u) => [(0, v), (3, u)]) (fun (j, u) w' => j ≤ padZ bs.length ∧ Kd.u8.Own F w.heap.size ty_uint8 w' u (bs ++ [128] ++ List.replicate j 0) ∧ Below w.heap.size w w') (fun (j, u) => padZ bs.length - j) (0, v7) (.cons rfl (.cons rfl (.nil))) ⟨Nat.zero_le _, by simpa using h7, hB7⟩ ?_
  rintro ⟨j, u⟩ wL0 ⟨hj, hu, hBL⟩
  unfold padZ at hj
  have hlen : (bs ++ [128] ++ List.replicate j (0 : UInt8)).length = bs.length + 1 + j := by simp; omega
  refine C_seq ?_
  refine C_seq ?_
  refine C_region ?_
  refine s_v (y_move rfl) ?_
  refine s_v (y_len_own rfl hu u_sl_uint8) ?_
  refine s_v (y_bin rfl rfl (fun _ => v_rem (by omega) (by omega))) ?_
  refine s_v (y_bin rfl rfl (fun _ => v_neq)) ?_
  refine G_nil ?_
  refine C_if rfl (fun hc11 => ?_) (fun hc11 => ?_)
  · skip
    refine C_skip ?_
    refine C_block ?_
    refine C_region ?_
    refine s_v (y_move rfl) ?_
    refine s_lit (K := Kd.u8) (F := F) (xs := [0]) rfl rfl rfl rfl u_sl_uint8 i_uint8 rfl (by decide) (by decide) (by simp [Value.cells, Kd.u8, Kd.flat]) (Kd.Els.lits rfl) ?_
    intro v13 w13 h13 hx13
    refine s_append (K := Kd.u8) rfl rfl (hu.ext hx13) ((h13.lower hBL.size).sl (fun k hk => hF k hk)) u_sl_uint8 i_uint8 rfl flat_u8 (by simp [maxLen]; omega) (by simp; omega) (Below.ext hBL hx13 hBL.size).size ?_
    intro v14 w14 h14 hg14 hb14
    have hB14 : Below w.heap.size w w14 := (Below.trans (Below.ext hBL hx13 hBL.size) hb14)
    refine s_v (y_assign rfl) ?_
    refine G_nil ?_
    refine ⟨(j + 1, v14), .cons rfl (.cons rfl .nil), ⟨?_, ?_, hB14⟩, ?_⟩
    · unfold padZ; omega
    · rw [List.replicate_succ', ← List.append_assoc]; exact h14
    · simp only [padZ]; omega
  · skip
    refine C_exit ?_
    refine C_seq ?_
    refine C_region ?_
    refine s_v (y_move rfl) ?_
    refine s_v (y_move rfl) ?_
    refine s_v (y_len rfl hv u_sl_uint8) ?_
    refine s_v (y_conv rfl (cv_i64_u64 rfl u_int u_uint64)) ?_
    refine s_v (y_bin rfl rfl (fun _ => v_shl64 _ 3 (by decide))) ?_
    refine s_call rfl cl_words_Put64 (words_Put64_ok _ (fun k hk => hF k (Nat.le_trans hBL.size hk)) (hu.sl (fun k hk => hF k hk)) (by simp; omega)) ?_
    rintro _ w20 ⟨v20, rfl, h20, hx20⟩
    refine ⟨_, rfl, ?_⟩
    have hO20 := h20
    replace h20 := h20.lower hBL.size
    refine s_v (y_assign rfl) ?_
    refine G_nil ?_
    refine C_ret ?_
    refine ⟨_, (.tmp rfl .nil), _, rfl, ?_, (Below.ext hBL hx20 hBL.size)⟩
    have e : j = padZ bs.length := by unfold padZ; omega
    unfold padS; rw [← e]; exact h20

theorem sha_step_ok {w : World} (h : List UInt32) (hl : h.length = 8) (k : UInt32) :
    Calls Pr N_sha_step #[.agg (h.map u32v).toArray, u32v k] w fun e w' => e = .returned (.agg ((stepS h k).map u32v).toArray) ∧ Ext w w' := by
  refine calls (args := [.agg (h.map u32v).toArray, u32v k]) fn_sha_step rfl rfl rfl rfl ?_
  obtain ⟨a, b, c, d, e, f, g, hh, rfl⟩ : ∃ a b c d e f g hh, h = [a, b, c, d, e, f, g, hh] := by
    match h, hl with
    | [a, b, c, d, e, f, g, hh], _ => exact ⟨a, b, c, d, e, f, g, hh, rfl⟩
  refine C_seq ?_
  refine C_region ?_
  refine s_box rfl ?_
  intro g2 w2 hgB2 hx2 hk2
  have hgb2 := hgB2
  refine s_alloc i_a8_uint32 ?_
  intro g4 w4 hgB4 hx4 hk4
  have hne_g2_4 : g2 ≠ g4 := Nat.ne_of_lt (Nat.lt_of_lt_of_le hk2.lt hgB4)
  have hgb4 := hgB4
  replace hgB4 := Nat.le_trans hx2.size hgB4
  refine G_nil ?_
  refine C_seq ?_
  refine C_draw (S := fun w' => Ext w4.drew w') rfl rfl ?_
  have hBd1 : Below w.heap.size w w4.drew := (Below.ext (Below.ext hx2 hx4 hx2.size) (Ext.drew w4) (Below.ext hx2 hx4 hx2.size).size)
  refine A_take 0 rfl (y_idxB rfl rfl (by decide) (by decide) u_a8_uint32 i_uint32) (Ext.refl _) (fun _ _ _ h => h) ?_
  refine A_take 1 rfl (y_load rfl (fun _ e => (((hk2.ext (hx4.trans (Ext.drew w4))).at_ _)).ext e) u_uint32) (Ext.refl _) (fun _ _ _ h => h) ?_
  refine A_take 2 rfl (y_idxB rfl rfl (by decide) (by decide) u_a8_uint32 i_uint32) (Ext.refl _) (fun _ _ _ h => h) ?_
  refine A_take 3 rfl (y_load rfl (fun _ e => (((hk2.ext (hx4.trans (Ext.drew w4))).at_ _)).ext e) u_uint32) (Ext.refl _) (fun _ _ _ h => h) ?_
  refine A_take 4 rfl (y_idxB rfl rfl (by decide) (by decide) u_a8_uint32 i_uint32) (Ext.refl _) (fun _ _ _ h => h) ?_
  refine A_take 5 rfl (y_load rfl (fun _ e => (((hk2.ext (hx4.trans (Ext.drew w4))).at_ _)).ext e) u_uint32) (Ext.refl _) (fun _ _ _ h => h) ?_
  refine A_take 6 rfl (y_idxB rfl rfl (by decide) (by decide) u_a8_uint32 i_uint32) (Ext.refl _) (fun _ _ _ h => h) ?_
  refine A_take 7 rfl (y_load rfl (fun _ e => (((hk2.ext (hx4.trans (Ext.drew w4))).at_ _)).ext e) u_uint32) (Ext.refl _) (fun _ _ _ h => h) ?_
  refine A_take 8 rfl (y_idxB rfl rfl (by decide) (by decide) u_a8_uint32 i_uint32) (Ext.refl _) (fun _ _ _ h => h) ?_
  refine A_take 9 rfl (y_load rfl (fun _ e => (((hk2.ext (hx4.trans (Ext.drew w4))).at_ _)).ext e) u_uint32) (Ext.refl _) (fun _ _ _ h => h) ?_
  refine A_take 10 rfl (y_idxB rfl rfl (by decide) (by decide) u_a8_uint32 i_uint32) (Ext.refl _) (fun _ _ _ h => h) ?_
  refine A_take 11 rfl (y_load rfl (fun _ e => (((hk2.ext (hx4.trans (Ext.drew w4))).at_ _)).ext e) u_uint32) (Ext.refl _) (fun _ _ _ h => h) ?_
  refine A_take 12 rfl (y_assign rfl) (Ext.refl _) (fun _ _ _ h => h) ?_
  refine A_take 13 rfl (y_assign rfl) (Ext.refl _) (fun _ _ _ h => h) ?_
  refine A_take 14 rfl (y_assign rfl) (Ext.refl _) (fun _ _ _ h => h) ?_
  refine A_take 15 rfl (y_assign rfl) (Ext.refl _) (fun _ _ _ h => h) ?_
  refine A_take 16 rfl (y_assign rfl) (Ext.refl _) (fun _ _ _ h => h) ?_
  refine A_take 17 rfl (y_assign rfl) (Ext.refl _) (fun _ _ _ h => h) ?_
  refine A_done ?_
  refine C_seq ?_
  refine C_region ?_
  refine s_v (y_move rfl) ?_
  refine s_call rfl cl_words_Rot (words_Rot_ok _ 6 (by decide)) ?_
  rintro _ _ ⟨rfl, rfl⟩
  refine ⟨_, rfl, ?_⟩
  refine s_v (y_move rfl) ?_
  refine s_call rfl cl_words_Rot (words_Rot_ok _ 11 (by decide)) ?_
  rintro _ _ ⟨rfl, rfl⟩
  refine ⟨_, rfl, ?_⟩
  refine s_v (y_bin rfl rfl (fun _ => v_xor32 _ _)) ?_
  refine s_v (y_move rfl) ?_
  refine s_call rfl cl_words_Rot (words_Rot_ok _ 25 (by decide)) ?_
  rintro _ _ ⟨rfl, rfl⟩
  refine ⟨_, rfl, ?_⟩
  refine s_v (y_bin rfl rfl (fun _ => v_xor32 _ _)) ?_
  refine s_v (y_assign rfl) ?_
  refine G_nil ?_
  refine C_seq ?_
  refine C_region ?_
  refine s_v (y_idxB rfl rfl (by decide) (by decide) u_a8_uint32 i_uint32) ?_
  refine s_v (y_load rfl (fun _ e => e ▸ ((hk2.ext (hx4.trans (Ext.drew w4))).at_ _)) u_uint32) ?_
  refine s_v (y_move rfl) ?_
  refine s_v (y_bin rfl rfl (fun _ => v_add32 _ _)) ?_
  refine s_v (y_move rfl) ?_
  refine s_v (y_move rfl) ?_
  refine s_v (y_bin rfl rfl (fun _ => v_and32 _ _)) ?_
  refine s_v (y_move rfl) ?_
  refine s_v (y_un rfl un_xor32) ?_
  refine s_v (y_move rfl) ?_
  refine s_v (y_bin rfl rfl (fun _ => v_and32 _ _)) ?_
  refine s_v (y_bin rfl rfl (fun _ => v_xor32 _ _)) ?_
  refine s_v (y_bin rfl rfl (fun _ => v_add32 _ _)) ?_
  refine s_v (y_move rfl) ?_
  refine s_v (y_bin rfl rfl (fun _ => v_add32 _ _)) ?_
  refine s_v (y_assign rfl) ?_
  refine G_nil ?_
  refine C_seq ?_
  refine C_region ?_
  refine s_v (y_move rfl) ?_
  refine s_call rfl cl_words_Rot (words_Rot_ok _ 2 (by decide)) ?_
  rintro _ _ ⟨rfl, rfl⟩
  refine ⟨_, rfl, ?_⟩
  refine s_v (y_move rfl) ?_
  refine s_call rfl cl_words_Rot (words_Rot_ok _ 13 (by decide)) ?_
  rintro _ _ ⟨rfl, rfl⟩
  refine ⟨_, rfl, ?_⟩
  refine s_v (y_bin rfl rfl (fun _ => v_xor32 _ _)) ?_
  refine s_v (y_move rfl) ?_
  refine s_call rfl cl_words_Rot (words_Rot_ok _ 22 (by decide)) ?_
  rintro _ _ ⟨rfl, rfl⟩
  refine ⟨_, rfl, ?_⟩
  refine s_v (y_bin rfl rfl (fun _ => v_xor32 _ _)) ?_
  refine s_v (y_assign rfl) ?_
  refine G_nil ?_
  refine C_seq ?_
  refine C_region ?_
  refine s_v (y_move rfl) ?_
  refine s_v (y_move rfl) ?_
  refine s_v (y_move rfl) ?_
  refine s_v (y_bin rfl rfl (fun _ => v_and32 _ _)) ?_
  refine s_v (y_move rfl) ?_
  refine s_v (y_move rfl) ?_
  refine s_v (y_bin rfl rfl (fun _ => v_and32 _ _)) ?_
  refine s_v (y_bin rfl rfl (fun _ => v_xor32 _ _)) ?_
  refine s_v (y_move rfl) ?_
  refine s_v (y_move rfl) ?_
  refine s_v (y_bin rfl rfl (fun _ => v_and32 _ _)) ?_
  refine s_v (y_bin rfl rfl (fun _ => v_xor32 _ _)) ?_
  refine s_v (y_bin rfl rfl (fun _ => v_add32 _ _)) ?_
  refine s_v (y_assign rfl) ?_
  refine G_nil ?_
  refine C_seq ?_
  refine C_region ?_
  refine s_v (y_move rfl) ?_
  refine s_v (y_move rfl) ?_
  refine s_v (y_bin rfl rfl (fun _ => v_add32 _ _)) ?_
  refine s_v (y_move rfl) ?_
  refine s_v (y_move rfl) ?_
  refine s_v (y_move rfl) ?_
  refine s_v (y_idxB rfl rfl (by decide) (by decide) u_a8_uint32 i_uint32) ?_
  refine s_v (y_load rfl (fun _ e => e ▸ ((hk2.ext (hx4.trans (Ext.drew w4))).at_ _)) u_uint32) ?_
  refine s_v (y_move rfl) ?_
  refine s_v (y_bin rfl rfl (fun _ => v_add32 _ _)) ?_
  refine s_v (y_move rfl) ?_
  refine s_v (y_move rfl) ?_
  refine s_v (y_move rfl) ?_
  refine s_v (y_buildA rfl rfl u_a8_uint32 i_a8_uint32 i_uint32 (by simp [Value.cells]) rfl) ?_
  refine s_store rfl rfl (hk4.ext (Ext.drew w4)) i_a8_uint32 rfl (Nat.le_of_ble_eq_true rfl) rfl ?_
  intro w6_14 hg6_14 hk6_14
  have hb6_14 : Below w.heap.size w4.drew w6_14 := (Below.refl _ _).grown hg6_14 hBd1.size (fun k hk => by cases hk; exact hgB4)
  refine G_nil ?_
  refine C_ret ?_
  exact ⟨_, (.cell rfl (ldA (hk6_14.at_ _) u_a8_uint32 i_a8_uint32 rfl) .nil), rfl, (Below.trans hBd1 hb6_14)⟩

abbrev A64 := 229
theorem sched_full (b : List UInt8) (k : Nat) (hk : k < 64) : (sched b k ++ List.replicate (64 - k) 0).set k (nextW b (sched b k)) = sched b (k + 1) ++ List.replicate (63 - k) 0 := by
  have hl := sched_len b k
  obtain ⟨m, hm⟩ : ∃ m, 64 - k = m + 1 := ⟨63 - k, by omega⟩
  rw [hm, List.replicate_succ, List.set_append_right _ _ (by omega), hl, Nat.sub_self, List.set_cons_zero, sched, List.append_assoc]
  simp
  omega
theorem full_pre (b : List UInt8) {k m : Nat} : (sched b k ++ List.replicate m 0).take (sched b k).length = sched b k := List.take_left
theorem full_get (b : List UInt8) {k m j : Nat} (h : j < k) : (sched b k ++ List.replicate m 0)[j]? = (sched b k)[j]? := List.getElem?_append_left (by rw [sched_len]; exact h)
theorem sched_some (b : List UInt8) {k j : Nat} (h : j < k) : (sched b k)[j]? = some ((sched b k).getD j 0) := by
  rw [List.getD_eq_getElem?_getD, List.getElem?_eq_getElem (by rw [sched_len]; exact h)]
  rfl

theorem sha_schedule_ok {F : Nat → Prop} {w : World} {v : Value} {bs : List UInt8} (hv : Kd.u8.Sl F w v bs) (hl : bs.length = 64) :
    Calls Pr N_sha_schedule #[v] w fun e w' => e = .returned (.agg ((sched bs 64).map u32v).toArray) ∧ Ext w w' := by
  refine calls (args := [v]) fn_sha_schedule rfl rfl rfl rfl ?_
  refine C_seq ?_
  refine C_region ?_
  refine s_alloc i_a64_uint32 ?_
  intro g2 w2 hgB2 hx2 hk2
  have hgb2 := hgB2
  refine G_nil ?_
  refine C_seq ?_
  refine C_region ?_
  refine s_alloc i_a64_uint32 ?_
  intro g3 w3 hgB3 hx3 hk3
  have hne_g2_3 : g2 ≠ g3 := Nat.ne_of_lt (Nat.lt_of_lt_of_le hk2.lt hgB3)
  have hgb3 := hgB3
  replace hgB3 := Nat.le_trans hx2.size hgB3
  refine G_nil ?_
  refine C_seq ?_
  refine C_seq ?_
  refine C_region ?_
  refine s_v (y_move rfl) ?_
  refine G_nil ?_
  refine C_block ?_
  refine C_loop (α := Nat) (fun k => [(0, v), (2, .pointer (some ⟨g2, 0, none⟩)), (3, .pointer (some ⟨g3, 0, none⟩)), (9, iv (k : Int))]) (fun k w' => k ≤ 64 ∧ Blk w' g3 ty_a64_uint32 ((sched bs k ++ List.replicate (64 - k) 0).map u32v) ∧ Blk w' g2 ty_a64_uint32 ((List.replicate 64 (0 : UInt32)).map u32v) ∧ Below w.heap.size w w') (fun k => 64 - k) 0 (.cons rfl (.cons rfl (.cons rfl (.cons rfl (.nil))))) ⟨Nat.zero_le _, hk3, (hk2.ext hx3), (Below.ext hx2 hx3 hx2.size)⟩ ?_
  rintro k wL0 ⟨hk, hw3, hw2, hBL⟩
  have hlen := sched_len bs k
  refine C_seq ?_
  refine C_region ?_
  refine s_v (y_bin rfl rfl (fun _ => v_lss)) ?_
  refine G_nil ?_
  refine C_seq ?_
  refine C_if rfl (fun hc10 => ?_) (fun hc10 => ?_)
  · skip
    replace hk : k < 64 := by omega
    refine C_skip ?_
    refine C_seq ?_
    refine C_block ?_
    refine C_seq ?_
    refine C_region ?_
    refine s_v (y_move rfl) ?_
    refine s_v (y_assign rfl) ?_
    refine G_nil ?_
    refine C_seq ?_
    refine C_seq ?_
    refine C_region ?_
    refine s_v (y_move rfl) ?_
    refine s_v (y_bin rfl rfl (fun _ => v_lss)) ?_
    refine G_nil ?_
    refine C_if rfl (fun hc13 => ?_) (fun hc13 => ?_)
    · skip
      refine C_seq ?_
      refine C_region ?_
      refine s_v (y_move rfl) ?_
      refine s_v (y_move rfl) ?_
      refine s_v (y_move rfl) ?_
      refine s_v (y_bin rfl rfl (fun _ => v_mul (by omega))) ?_
      refine s_call rfl cl_words_Get32 (words_Get32_ok (by omega) (by omega) (hv.keep fun k hk _ => hBL.block k hk) (by omega)) ?_
      rintro _ _ ⟨rfl, rfl⟩
      refine ⟨_, rfl, ?_⟩
      refine s_v (y_move rfl) ?_
      refine s_v (y_extract rfl rfl) ?_
      refine s_v (y_extract rfl rfl) ?_
      refine s_v (y_idxB rfl rfl (by omega) (by omega) u_a64_uint32 i_uint32) ?_
      refine s_store rfl rfl hw3 i_uint32 rfl (by simp [sched_len]; omega) rfl ?_
      intro w6_9 hg6_9 hk6_9
      have hb6_9 : Below w.heap.size wL0 w6_9 := (Below.refl _ _).grown hg6_9 hBL.size (fun k hk => by cases hk; exact hgB3)
      replace hk6_9 := blk_set hk6_9 (k := k) (by omega) (by simp [sched_len]; omega)
      rw [show (getS bs (4 * (k : Int)) 4).1.toUInt32 = nextW bs (sched bs k) from by unfold nextW; rw [if_pos (by omega), hlen]] at hk6_9
      refine G_nil ?_
      refine C_exit ?_
      refine C_region ?_
      refine s_v (y_bin rfl rfl (fun _ => v_add (by omega))) ?_
      refine s_v (y_move rfl) ?_
      refine G_nil ?_
      rw [sched_full bs k hk] at hk6_9
      refine ⟨k + 1, .cons rfl (.cons rfl (.cons rfl (.cons rfl .nil))), ⟨by omega, ?_, (hw2.far hg6_9 hne_g2_3), (Below.trans hBL hb6_9)⟩, by omega⟩
      rw [show 64 - (k + 1) = 63 - k from by omega]
      exact hk6_9
    · skip
      refine C_skip ?_
      refine C_seq ?_
      have hSd : (fun w' => PreAt u32v w' g3 ty_a64_uint32 (sched bs k)) wL0.drew := ⟨_, hw3, full_pre bs⟩
      refine C_draw (S := fun w' => PreAt u32v w' g3 ty_a64_uint32 (sched bs k)) rfl rfl ?_
      refine A_take 0 rfl (y_move rfl) hSd (fun _ _ _ h => h) ?_
      refine A_take 1 rfl (y_bin rfl rfl (fun _ => v_sub (by omega))) hSd (fun _ _ _ h => h) ?_
      refine A_take 2 rfl (y_idxB rfl rfl (by omega) (by omega) u_a64_uint32 i_uint32) hSd (fun _ _ _ h => h) ?_
      refine A_take 3 rfl (y_load rfl (fun _ e => (e.el (sched_some bs (k := k) (j := k - 15) (by omega)) (by omega))) u_uint32) hSd (fun _ _ _ h => h) ?_
      refine A_take 4 rfl (y_move rfl) hSd (fun _ _ _ h => h) ?_
      refine A_take 5 rfl (y_bin rfl rfl (fun _ => v_sub (by omega))) hSd (fun _ _ _ h => h) ?_
      refine A_take 6 rfl (y_idxB rfl rfl (by omega) (by omega) u_a64_uint32 i_uint32) hSd (fun _ _ _ h => h) ?_
      refine A_take 7 rfl (y_load rfl (fun _ e => (e.el (sched_some bs (k := k) (j := k - 2) (by omega)) (by omega))) u_uint32) hSd (fun _ _ _ h => h) ?_
      refine A_take 8 rfl (y_assign rfl) hSd (fun _ _ _ h => h) ?_
      refine A_take 9 rfl (y_assign rfl) hSd (fun _ _ _ h => h) ?_
      refine A_done ?_
      refine C_seq ?_
      refine C_region ?_
      refine s_v (y_move rfl) ?_
      refine s_call rfl cl_words_Rot (words_Rot_ok _ _ (by decide)) ?_
      rintro _ _ ⟨rfl, rfl⟩
      refine ⟨_, rfl, ?_⟩
      refine s_v (y_move rfl) ?_
      refine s_call rfl cl_words_Rot (words_Rot_ok _ _ (by decide)) ?_
      rintro _ _ ⟨rfl, rfl⟩
      refine ⟨_, rfl, ?_⟩
      refine s_v (y_bin rfl rfl (fun _ => v_xor32 _ _)) ?_
      refine s_v (y_move rfl) ?_
      refine s_v (y_bin rfl rfl (fun _ => v_shr32 _ 3 (by decide))) ?_
      refine s_v (y_bin rfl rfl (fun _ => v_xor32 _ _)) ?_
      refine s_v (y_assign rfl) ?_
      refine G_nil ?_
      refine C_seq ?_
      refine C_region ?_
      refine s_v (y_move rfl) ?_
      refine s_call rfl cl_words_Rot (words_Rot_ok _ _ (by decide)) ?_
      rintro _ _ ⟨rfl, rfl⟩
      refine ⟨_, rfl, ?_⟩
      refine s_v (y_move rfl) ?_
      refine s_call rfl cl_words_Rot (words_Rot_ok _ _ (by decide)) ?_
      rintro _ _ ⟨rfl, rfl⟩
      refine ⟨_, rfl, ?_⟩
      refine s_v (y_bin rfl rfl (fun _ => v_xor32 _ _)) ?_
      refine s_v (y_move rfl) ?_
      refine s_v (y_bin rfl rfl (fun _ => v_shr32 _ 10 (by decide))) ?_
      refine s_v (y_bin rfl rfl (fun _ => v_xor32 _ _)) ?_
      refine s_v (y_assign rfl) ?_
      refine G_nil ?_
      have hSd : (fun w' => PreAt u32v w' g3 ty_a64_uint32 (sched bs k)) wL0.drew.drew := ⟨_, hw3, full_pre bs⟩
      refine C_draw (S := fun w' => PreAt u32v w' g3 ty_a64_uint32 (sched bs k)) rfl rfl ?_
      have hBd10 : Below w.heap.size w wL0.drew.drew := (Below.ext (Below.ext hBL (Ext.drew wL0) hBL.size) (Ext.drew wL0.drew) (Below.ext hBL (Ext.drew wL0) hBL.size).size)
      refine A_take 0 rfl (y_move rfl) hSd (fun _ _ _ h => h) ?_
      refine A_take 1 rfl (y_move rfl) hSd (fun _ _ _ h => h) ?_
      refine A_take 2 rfl (y_bin rfl rfl (fun _ => v_sub (by omega))) hSd (fun _ _ _ h => h) ?_
      refine A_take 3 rfl (y_idxB rfl rfl (by omega) (by omega) u_a64_uint32 i_uint32) hSd (fun _ _ _ h => h) ?_
      refine A_take 4 rfl (y_load rfl (fun _ e => (e.el (sched_some bs (k := k) (j := k - 16) (by omega)) (by omega))) u_uint32) hSd (fun _ _ _ h => h) ?_
      refine A_take 5 rfl (y_move rfl) hSd (fun _ _ _ h => h) ?_
      refine A_take 6 rfl (y_bin rfl rfl (fun _ => v_add32 _ _)) hSd (fun _ _ _ h => h) ?_
      refine A_take 7 rfl (y_move rfl) hSd (fun _ _ _ h => h) ?_
      refine A_take 8 rfl (y_bin rfl rfl (fun _ => v_sub (by omega))) hSd (fun _ _ _ h => h) ?_
      refine A_take 9 rfl (y_idxB rfl rfl (by omega) (by omega) u_a64_uint32 i_uint32) hSd (fun _ _ _ h => h) ?_
      refine A_take 10 rfl (y_load rfl (fun _ e => (e.el (sched_some bs (k := k) (j := k - 7) (by omega)) (by omega))) u_uint32) hSd (fun _ _ _ h => h) ?_
      refine A_take 11 rfl (y_bin rfl rfl (fun _ => v_add32 _ _)) hSd (fun _ _ _ h => h) ?_
      refine A_take 12 rfl (y_move rfl) hSd (fun _ _ _ h => h) ?_
      refine A_take 13 rfl (y_bin rfl rfl (fun _ => v_add32 _ _)) hSd (fun _ _ _ h => h) ?_
      refine A_take 14 rfl (y_idxB rfl rfl (by omega) (by omega) u_a64_uint32 i_uint32) hSd (fun _ _ _ h => h) ?_
      refine A_act 15 rfl ?_
      refine s_store rfl rfl (hw3.ext ((Ext.drew wL0).trans (Ext.drew wL0.drew))) i_uint32 rfl (by simp [sched_len]; omega) rfl ?_
      intro w10_15 hg10_15 hk10_15
      have hb10_15 : Below w.heap.size wL0.drew.drew w10_15 := (Below.refl _ _).grown hg10_15 hBd10.size (fun k hk => by cases hk; exact hgB3)
      replace hk10_15 := blk_set hk10_15 (k := k) (by omega) (by simp [sched_len]; omega)
      have hnw : (sched bs k).getD (k - 16) 0 + (rotr ((sched bs k).getD (k - 15) 0) 7 ^^^ rotr ((sched bs k).getD (k - 15) 0) 18 ^^^ (sched bs k).getD (k - 15) 0 >>> UInt32.ofNat 3) + (sched bs k).getD (k - 7) 0 + (rotr ((sched bs k).getD (k - 2) 0) 17 ^^^ rotr ((sched bs k).getD (k - 2) 0) 19 ^^^ (sched bs k).getD (k - 2) 0 >>> UInt32.ofNat 10) = nextW bs (sched bs k) := by unfold nextW; rw [if_neg (by omega), hlen]; rfl
      rw [hnw] at hk10_15
      have hSd15 : (fun w' => PreAt u32v w' g3 ty_a64_uint32 (sched bs k)) w10_15 := ⟨_, hk10_15, by rw [sched_full bs k hk, sched, List.append_assoc, List.take_left]⟩
      refine G_nil ⟨hSd15, ?_⟩
      refine A_done ?_
      refine C_region ?_
      refine s_v (y_bin rfl rfl (fun _ => v_add (by omega))) ?_
      refine s_v (y_move rfl) ?_
      refine G_nil ?_
      rw [sched_full bs k hk] at hk10_15
      refine ⟨k + 1, .cons rfl (.cons rfl (.cons rfl (.cons rfl .nil))), ⟨by omega, ?_, (((hw2.ext (Ext.drew wL0)).ext (Ext.drew wL0.drew)).far hg10_15 hne_g2_3), (Below.trans hBd10 hb10_15)⟩, by omega⟩
      rw [show 64 - (k + 1) = 63 - k from by omega]
      exact hk10_15
  · skip
    obtain rfl : k = 64 := by omega
    refine C_exit ?_
    refine C_seq ?_
    refine C_region ?_
    refine s_v (y_loadA rfl (fun _ e => e ▸ (hw3.cells)) u_a64_uint32 i_a64_uint32 (by simp [sched_len])) ?_
    refine s_store rfl rfl hw2 i_a64_uint32 (by simp [Value.cells, sched_len]) (by simp) (one_map (fun _ => rfl) _) ?_
    intro w12_1 hg12_1 hk12_1
    have hb12_1 : Below w.heap.size wL0 w12_1 := (Below.refl _ _).grown hg12_1 hBL.size (fun k hk => by cases hk; exact hgB2)
    refine G_nil ?_
    refine C_ret ?_
    replace hk12_1 := hk12_1.whole (es := (sched bs 64).map u32v) (by simp) (by simp [Value.cells])
    exact ⟨_, (.cell rfl (ldA (hk12_1.at_ _) u_a64_uint32 i_a64_uint32 (by simp [sched_len])) .nil), rfl, (Below.trans hBL hb12_1)⟩

theorem shaK_some {k : Nat} (h : k < 64) : shaK[k]? = some (shaK.getD k 0) := by
  rw [List.getD_eq_getElem?_getD, List.getElem?_eq_getElem (by exact h)]; rfl
theorem map_some {α : Type} {f : α → Value} {l : List α} {k : Nat} {x : α} (h : l[k]? = some x) : (l.map f)[k]? = some (f x) := by rw [List.getElem?_map, h]; rfl
/-- Numbers added, one by one, the first k. -/
def addTo (a b : List UInt32) (k : Nat) : List UInt32 := List.zipWith (· + ·) (a.take k) (b.take k) ++ a.drop k
theorem addTo_len {a b : List UInt32} (h : a.length = b.length) (k : Nat) : (addTo a b k).length = a.length := by simp [addTo, h]; omega
theorem addTo_step {a b : List UInt32} (h : a.length = b.length) {k : Nat} {x y : UInt32} (hx : a[k]? = some x) (hy : b[k]? = some y) : (addTo a b k).set k (x + y) = addTo a b (k + 1) := by
  obtain ⟨h1, h2⟩ := List.getElem?_eq_some_iff.1 hx
  obtain ⟨h3, h4⟩ := List.getElem?_eq_some_iff.1 hy
  unfold addTo
  have hl : (List.zipWith (· + ·) (a.take k) (b.take k)).length = k := by simp; omega
  rw [List.set_append_right _ _ (by omega), hl, Nat.sub_self, List.drop_eq_getElem_cons h1, List.set_cons_zero, take_snoc a k x hx, take_snoc b k y hy, List.zipWith_append (by simp; omega)]
  simp
theorem addTo_get {a b : List UInt32} {k : Nat} {x : UInt32} (h : a.length = b.length) (hx : a[k]? = some x) : (addTo a b k)[k]? = some x := by
  obtain ⟨h1, h2⟩ := List.getElem?_eq_some_iff.1 hx
  unfold addTo
  have hl : (List.zipWith (· + ·) (a.take k) (b.take k)).length = k := by simp; omega
  rw [List.getElem?_append_right (by omega), hl, Nat.sub_self, List.getElem?_drop]
  exact hx
theorem addTo_all {a b : List UInt32} (h : a.length = b.length) {k : Nat} (hk : a.length = k) : addTo a b k = List.zipWith (· + ·) a b := by
  subst hk
  unfold addTo
  rw [List.take_of_length_le (Nat.le_refl _), List.take_of_length_le (by omega), List.drop_of_length_le (Nat.le_refl _), List.append_nil]

theorem sha_mix_ok {F : Nat → Prop} {w : World} {v : Value} {bs : List UInt8} (h : List UInt32) (hh : h.length = 8) (hv : Kd.u8.Sl F w v bs) (hl : bs.length = 64) :
    Calls Pr N_sha_mix #[.agg (h.map u32v).toArray, v, .agg (shaK.map u32v).toArray] w fun e w' => e = .returned (.agg ((mixS h bs).map u32v).toArray) ∧ Ext w w' := by
  refine calls (args := [.agg (h.map u32v).toArray, v, .agg (shaK.map u32v).toArray]) fn_sha_mix rfl rfl rfl rfl ?_
  refine C_seq ?_
  refine C_region ?_
  refine s_box rfl ?_
  intro g3 w3 hgB3 hx3 hk3
  have hgb3 := hgB3
  replace hk3 : Blk w3 g3 ty_a8_uint32 (h.map u32v) := by simpa [Value.cells] using hk3
  refine s_box rfl ?_
  intro g5 w5 hgB5 hx5 hk5
  have hne_g3_5 : g3 ≠ g5 := Nat.ne_of_lt (Nat.lt_of_lt_of_le hk3.lt hgB5)
  have hgb5 := hgB5
  replace hgB5 := Nat.le_trans hx3.size hgB5
  replace hk5 : Blk w5 g5 ty_a64_uint32 (shaK.map u32v) := by simpa [Value.cells] using hk5
  refine s_alloc i_a8_uint32 ?_
  intro g6 w6 hgB6 hx6 hk6
  have hne_g3_6 : g3 ≠ g6 := Nat.ne_of_lt (Nat.lt_of_lt_of_le (hk3.ext hx5).lt hgB6)
  have hne_g5_6 : g5 ≠ g6 := Nat.ne_of_lt (Nat.lt_of_lt_of_le hk5.lt hgB6)
  have hgb6 := hgB6
  replace hgB6 := Nat.le_trans (Below.ext hx3 hx5 hx3.size).size hgB6
  have hB6 : Below w.heap.size w w6 := (Below.ext (Below.ext hx3 hx5 hx3.size) hx6 (Below.ext hx3 hx5 hx3.size).size)
  refine G_nil ?_
  refine C_seq ?_
  refine C_region ?_
  refine s_v (y_loadA rfl (fun _ e => e ▸ ((hk3.ext (hx5.trans hx6)).cells)) u_a8_uint32 i_a8_uint32 (by simp [hh])) ?_
  refine s_alloc i_a8_uint32 ?_
  intro g7 w7 hgB7 hx7 hk7
  have hne_g3_7 : g3 ≠ g7 := Nat.ne_of_lt (Nat.lt_of_lt_of_le (hk3.ext (hx5.trans hx6)).lt hgB7)
  have hne_g5_7 : g5 ≠ g7 := Nat.ne_of_lt (Nat.lt_of_lt_of_le (hk5.ext hx6).lt hgB7)
  have hne_g6_7 : g6 ≠ g7 := Nat.ne_of_lt (Nat.lt_of_lt_of_le hk6.lt hgB7)
  have hgb7 := hgB7
  replace hgB7 := Nat.le_trans hB6.size hgB7
  refine s_store rfl rfl hk7 i_a8_uint32 (by simp [Value.cells, hh]) (Nat.le_of_ble_eq_true rfl) (one_map (fun _ => rfl) _) ?_
  intro w1_2 hg1_2 hk1_2
  have hb1_2 : Below w.heap.size w7 w1_2 := (Below.refl _ _).grown hg1_2 (Below.ext hB6 hx7 hB6.size).size (fun k hk => by cases hk; exact hgB7)
  have hB1_2 : Below w.heap.size w w1_2 := (Below.trans (Below.ext hB6 hx7 hB6.size) hb1_2)
  replace hk1_2 : Blk w1_2 g7 ty_a8_uint32 (h.map u32v) := hk1_2.whole rfl (by simp [Value.cells])
  refine G_nil ?_
  refine C_seq ?_
  refine C_seq ?_
  refine C_region ?_
  refine s_v (y_move rfl) ?_
  refine s_call rfl cl_sha_schedule (sha_schedule_ok (hv.keep fun k hk _ => hB1_2.block k hk) hl) ?_
  rintro _ w13 ⟨rfl, hx13⟩
  refine ⟨_, rfl, ?_⟩
  refine s_v (y_move rfl) ?_
  refine G_nil ?_
  refine C_block ?_
  refine C_loop (α := Nat) (fun k => [(3, .pointer (some ⟨g3, 0, none⟩)), (5, .pointer (some ⟨g5, 0, none⟩)), (6, .pointer (some ⟨g6, 0, none⟩)), (7, .pointer (some ⟨g7, 0, none⟩)), (13, .agg ((sched bs 64).map u32v).toArray), (14, iv (k : Int))]) (fun k w' => k ≤ 64 ∧ Blk w' g7 ty_a8_uint32 ((roundsS h bs k).map u32v) ∧ Blk w' g3 ty_a8_uint32 (h.map u32v) ∧ Blk w' g5 ty_a64_uint32 (shaK.map u32v) ∧ Blk w' g6 ty_a8_uint32 ((List.replicate 8 (0 : UInt32)).map u32v) ∧ Below w.heap.size w w') (fun k => 64 - k) 0 (.cons rfl (.cons rfl (.cons rfl (.cons rfl (.cons rfl (.cons rfl (.nil))))))) ⟨Nat.zero_le _, (hk1_2.ext hx13), (((((hk3.ext hx5).ext hx6).ext hx7).far hg1_2 hne_g3_7).ext hx13), ((((hk5.ext hx6).ext hx7).far hg1_2 hne_g5_7).ext hx13), (((hk6.ext hx7).far hg1_2 hne_g6_7).ext hx13), (Below.ext hB1_2 hx13 hB1_2.size)⟩ ?_
  rintro k wL0 ⟨hk, hw7, hw3, hw5, hw6, hBL⟩
  refine C_seq ?_
  refine C_region ?_
  refine s_v (y_bin rfl rfl (fun _ => v_lss)) ?_
  refine G_nil ?_
  refine C_seq ?_
  refine C_if rfl (fun hc15 => ?_) (fun hc15 => ?_)
  · skip
    replace hk : k < 64 := by omega
    refine C_skip ?_
    refine C_seq ?_
    refine C_block ?_
    refine C_seq ?_
    refine C_region ?_
    refine s_v (y_move rfl) ?_
    refine s_v (y_index rfl rfl (by omega) (by omega) (map_some (sched_some bs (j := k) (k := 64) (by omega))) u_a64_uint32 u_uint32 i_uint32) ?_
    refine s_v (y_assign rfl) ?_
    refine s_v (y_assign rfl) ?_
    refine G_nil ?_
    have hSd : (fun w' => Blk w' g5 ty_a64_uint32 (shaK.map u32v)) wL0.drew := hw5
    refine C_draw (S := fun w' => Blk w' g5 ty_a64_uint32 (shaK.map u32v)) rfl rfl ?_
    refine A_take 1 rfl (y_move rfl) hSd (fun _ _ _ h => h) ?_
    refine A_take 2 rfl (y_idxB rfl rfl (by omega) (by omega) u_a64_uint32 i_uint32) hSd (fun _ _ _ h => h) ?_
    refine A_take 3 rfl (y_load rfl (fun _ e => (e.el (shaK_some (k := k) (by omega)) (by omega))) u_uint32) hSd (fun _ _ _ h => h) ?_
    refine A_take 4 rfl (y_move rfl) hSd (fun _ _ _ h => h) ?_
    refine A_take 5 rfl (y_bin rfl rfl (fun _ => v_add32 _ _)) hSd (fun _ _ _ h => h) ?_
    refine A_act 0 rfl ?_
    refine s_v (y_loadA rfl (fun _ e => e ▸ ((hw7.ext (Ext.drew wL0)).at_ _)) u_a8_uint32 i_a8_uint32 (by simp [roundsS_len hh])) ?_
    refine G_nil ⟨hSd, ?_⟩
    refine A_act 6 rfl ?_
    refine s_call rfl cl_sha_step (sha_step_ok (roundsS h bs k) (roundsS_len hh _ _) _) ?_
    rintro _ w24 ⟨rfl, hx24⟩
    refine ⟨_, rfl, ?_⟩
    have hB24 : Below w.heap.size w w24 := (Below.ext (Below.ext hBL (Ext.drew wL0) hBL.size) hx24 (Below.ext hBL (Ext.drew wL0) hBL.size).size)
    have hSd6 : (fun w' => Blk w' g5 ty_a64_uint32 (shaK.map u32v)) w24 := (hw5.ext ((Ext.drew wL0).trans hx24))
    refine G_nil ⟨hSd6, ?_⟩
    refine A_act 7 rfl ?_
    refine s_store rfl rfl (hw7.ext ((Ext.drew wL0).trans hx24)) i_a8_uint32 (by simp [Value.cells, stepS_len (roundsS_len hh _ _)]) (by simp [roundsS_len hh]) (one_map (fun _ => rfl) _) ?_
    intro w5_7 hg5_7 hk5_7
    have hb5_7 : Below w.heap.size w24 w5_7 := (Below.refl _ _).grown hg5_7 hB24.size (fun k hk => by cases hk; exact hgB7)
    replace hk5_7 : Blk w5_7 g7 ty_a8_uint32 ((roundsS h bs (k + 1)).map u32v) := hk5_7.whole (by simp [roundsS_len hh]) (by simp [Value.cells, roundsS])
    have hSd7 : (fun w' => Blk w' g5 ty_a64_uint32 (shaK.map u32v)) w5_7 := (((hw5.ext (Ext.drew wL0)).ext hx24).far hg5_7 hne_g5_7)
    refine G_nil ⟨hSd7, ?_⟩
    refine A_done ?_
    refine C_region ?_
    refine s_v (y_bin rfl rfl (fun _ => v_add (by omega))) ?_
    refine s_v (y_move rfl) ?_
    refine G_nil ?_
    refine ⟨k + 1, .cons rfl (.cons rfl (.cons rfl (.cons rfl (.cons rfl (.cons rfl .nil))))), ⟨by omega, hk5_7, (((hw3.ext (Ext.drew wL0)).ext hx24).far hg5_7 hne_g3_7), (((hw5.ext (Ext.drew wL0)).ext hx24).far hg5_7 hne_g5_7), (((hw6.ext (Ext.drew wL0)).ext hx24).far hg5_7 hne_g6_7), (Below.trans hB24 hb5_7)⟩, by omega⟩
  · skip
    obtain rfl : k = 64 := by omega
    refine C_exit ?_
    refine C_seq ?_
    refine C_seq ?_
    refine C_region ?_
    refine s_v (y_move rfl) ?_
    refine G_nil ?_
    refine C_block ?_
    refine C_loop (α := Nat) (fun k => [(3, .pointer (some ⟨g3, 0, none⟩)), (6, .pointer (some ⟨g6, 0, none⟩)), (7, .pointer (some ⟨g7, 0, none⟩)), (26, iv (k : Int))]) (fun k w' => k ≤ 8 ∧ Blk w' g3 ty_a8_uint32 ((addTo h (roundsS h bs 64) k).map u32v) ∧ Blk w' g7 ty_a8_uint32 ((roundsS h bs 64).map u32v) ∧ Blk w' g6 ty_a8_uint32 ((List.replicate 8 (0 : UInt32)).map u32v) ∧ Below w.heap.size w w') (fun k => 8 - k) 0 (.cons rfl (.cons rfl (.cons rfl (.cons rfl (.nil))))) ⟨Nat.zero_le _, by simpa [addTo] using hw3, hw7, hw6, hBL⟩ ?_
    rintro k wL2 ⟨hk, hw3, hw7, hw6, hBL2⟩
    refine C_seq ?_
    refine C_region ?_
    refine s_v (y_bin rfl rfl (fun _ => v_lss)) ?_
    refine G_nil ?_
    refine C_seq ?_
    refine C_if rfl (fun hc27 => ?_) (fun hc27 => ?_)
    · skip
      replace hk : k < 8 := by omega
      obtain ⟨x, hxk⟩ : ∃ x, h[k]? = some x := ⟨_, List.getElem?_eq_getElem (by omega)⟩
      obtain ⟨y, hyk⟩ : ∃ y, (roundsS h bs 64)[k]? = some y := ⟨_, List.getElem?_eq_getElem (by rw [roundsS_len hh]; omega)⟩
      refine C_skip ?_
      refine C_seq ?_
      refine C_block ?_
      refine C_seq ?_
      refine C_region ?_
      refine s_v (y_move rfl) ?_
      refine s_v (y_assign rfl) ?_
      refine G_nil ?_
      have hSd : (fun w' => Blk w' g7 ty_a8_uint32 ((roundsS h bs 64).map u32v)) wL2.drew := hw7
      refine C_draw (S := fun w' => Blk w' g7 ty_a8_uint32 ((roundsS h bs 64).map u32v)) rfl rfl ?_
      have hBd10 : Below w.heap.size w wL2.drew := (Below.ext hBL2 (Ext.drew wL2) hBL2.size)
      refine A_take 0 rfl (y_move rfl) hSd (fun _ _ _ h => h) ?_
      refine A_take 1 rfl (y_idxB rfl rfl (by omega) (by omega) u_a8_uint32 i_uint32) hSd (fun _ _ _ h => h) ?_
      refine A_take 3 rfl (y_move rfl) hSd (fun _ _ _ h => h) ?_
      refine A_take 4 rfl (y_idxB rfl rfl (by omega) (by omega) u_a8_uint32 i_uint32) hSd (fun _ _ _ h => h) ?_
      refine A_take 5 rfl (y_load rfl (fun _ e => (e.el hyk (by omega))) u_uint32) hSd (fun _ _ _ h => h) ?_
      refine A_act 2 rfl ?_
      refine s_v (y_load rfl (fun _ e => e ▸ ((hw3.ext (Ext.drew wL2)).el (addTo_get (by rw [hh, roundsS_len hh]) hxk) (by omega))) u_uint32) ?_
      refine G_nil ⟨hSd, ?_⟩
      refine A_take 6 rfl (y_bin rfl rfl (fun _ => v_add32 _ _)) hSd (fun _ _ _ h => h) ?_
      refine A_take 7 rfl (y_idxB rfl rfl (by omega) (by omega) u_a8_uint32 i_uint32) hSd (fun _ _ _ h => h) ?_
      refine A_act 8 rfl ?_
      refine s_store rfl rfl (hw3.ext (Ext.drew wL2)) i_uint32 rfl (by rw [List.length_map, addTo_len (by rw [hh, roundsS_len hh])]; omega) rfl ?_
      intro w10_8 hg10_8 hk10_8
      have hb10_8 : Below w.heap.size wL2.drew w10_8 := (Below.refl _ _).grown hg10_8 hBd10.size (fun k hk => by cases hk; exact hgB3)
      replace hk10_8 := blk_set hk10_8 (k := k) (by omega) (by rw [addTo_len (by rw [hh, roundsS_len hh])]; omega)
      rw [addTo_step (by rw [hh, roundsS_len hh]) hxk hyk] at hk10_8
      have hSd8 : (fun w' => Blk w' g7 ty_a8_uint32 ((roundsS h bs 64).map u32v)) w10_8 := ((hw7.ext (Ext.drew wL2)).far hg10_8 (Ne.symm hne_g3_7))
      refine G_nil ⟨hSd8, ?_⟩
      refine A_done ?_
      refine C_region ?_
      refine s_v (y_bin rfl rfl (fun _ => v_add (by omega))) ?_
      refine s_v (y_move rfl) ?_
      refine G_nil ?_
      refine ⟨k + 1, .cons rfl (.cons rfl (.cons rfl (.cons rfl .nil))), ⟨by omega, hk10_8, ((hw7.ext (Ext.drew wL2)).far hg10_8 (Ne.symm hne_g3_7)), ((hw6.ext (Ext.drew wL2)).far hg10_8 (Ne.symm hne_g3_6)), (Below.trans hBd10 hb10_8)⟩, by omega⟩
    · skip
      obtain rfl : k = 8 := by omega
      refine C_exit ?_
      refine C_seq ?_
      refine C_region ?_
      refine s_v (y_loadA rfl (fun _ e => e ▸ (hw3.cells)) u_a8_uint32 i_a8_uint32 (by rw [List.length_map, addTo_len (by rw [hh, roundsS_len hh]), hh])) ?_
      refine s_store rfl rfl hw6 i_a8_uint32 (by simp [Value.cells, addTo_len (show h.length = (roundsS h bs 64).length by rw [hh, roundsS_len hh]), hh]) (by simp) (one_map (fun _ => rfl) _) ?_
      intro w12_1 hg12_1 hk12_1
      have hb12_1 : Below w.heap.size wL2 w12_1 := (Below.refl _ _).grown hg12_1 hBL2.size (fun k hk => by cases hk; exact hgB6)
      replace hk12_1 := hk12_1.whole (es := (mixS h bs).map u32v) (by simp) (by simp [Value.cells]; rw [addTo_all (by rw [hh, roundsS_len hh]) hh]; rfl)
      refine G_nil ?_
      refine C_ret ?_
      exact ⟨_, (.cell rfl (ldA (hk12_1.at_ _) u_a8_uint32 i_a8_uint32 (by simp [mixS_len hh])) .nil), rfl, (Below.trans hBL2 hb12_1)⟩

theorem be32s_len (l : List UInt32) : (l.flatMap be32).length = 4 * l.length := by
  induction l with
  | nil => rfl
  | cons x xs ih => rw [List.flatMap_cons, List.length_append, ih, be32_len, List.length_cons]; omega
theorem padS_mod (bs : List UInt8) : (padS bs).length % 64 = 0 := by rw [padS_len]; unfold padZ; omega

theorem sha_Sum_ok {F : Nat → Prop} {w : World} {v : Value} {bs : List UInt8} (hv : Kd.u8.Sl F w v bs) (hl : bs.length ≤ 2 ^ 37) :
    Calls Pr N_sha_Sum #[v] w fun e w' => e = .returned (.agg ((shaS bs).map u8v).toArray) ∧ Ext w w' := by
  suffices H : ∀ F : Nat → Prop, (∀ k, w.heap.size ≤ k → F k) → Kd.u8.Sl F w v bs → Calls Pr N_sha_Sum #[v] w fun e w' => e = .returned (.agg ((shaS bs).map u8v).toArray) ∧ Ext w w' from H (fun _ => True) (fun _ _ => trivial) (hv.mono fun _ _ _ => trivial)
  clear hv F
  intro F hF hv
  refine calls (args := [v]) fn_sha_Sum rfl rfl rfl rfl ?_
  refine C_seq ?_
  refine C_region ?_
  refine s_alloc i_api_Key ?_
  intro g2 w2 hgB2 hx2 hk2
  have hgb2 := hgB2
  refine G_nil ?_
  refine C_seq ?_
  refine C_region ?_
  refine s_call rfl cl_sha_first (sha_first_ok ) ?_
  rintro _ w10 ⟨rfl, hx10⟩
  refine ⟨_, rfl, ?_⟩
  refine s_call rfl cl_sha_numbers (sha_numbers_ok ) ?_
  rintro _ w11 ⟨rfl, hx11⟩
  refine ⟨_, rfl, ?_⟩
  have hB11 : Below w.heap.size w w11 := (Below.ext (Below.ext hx2 hx10 hx2.size) hx11 (Below.ext hx2 hx10 hx2.size).size)
  refine s_alloc i_a8_uint32 ?_
  intro g3 w3 hgB3 hx3 hk3
  have hne_g2_3 : g2 ≠ g3 := Nat.ne_of_lt (Nat.lt_of_lt_of_le (hk2.ext (hx10.trans hx11)).lt hgB3)
  have hgb3 := hgB3
  replace hgB3 := Nat.le_trans hB11.size hgB3
  refine s_alloc i_a64_uint32 ?_
  intro g4 w4 hgB4 hx4 hk4
  have hne_g2_4 : g2 ≠ g4 := Nat.ne_of_lt (Nat.lt_of_lt_of_le (hk2.ext ((hx10.trans hx11).trans hx3)).lt hgB4)
  have hne_g3_4 : g3 ≠ g4 := Nat.ne_of_lt (Nat.lt_of_lt_of_le hk3.lt hgB4)
  have hgb4 := hgB4
  replace hgB4 := Nat.le_trans (Below.ext hB11 hx3 hB11.size).size hgB4
  have hB4 : Below w.heap.size w w4 := (Below.ext (Below.ext hB11 hx3 hB11.size) hx4 (Below.ext hB11 hx3 hB11.size).size)
  refine s_store rfl rfl (hk3.ext hx4) i_a8_uint32 rfl (Nat.le_of_ble_eq_true rfl) rfl ?_
  intro w1_4 hg1_4 hk1_4
  have hb1_4 : Below w.heap.size w4 w1_4 := (Below.refl _ _).grown hg1_4 hB4.size (fun k hk => by cases hk; exact hgB3)
  replace hk1_4 : Blk w1_4 g3 ty_a8_uint32 (shaH.map u32v) := hk1_4.whole rfl (by simp [Value.cells])
  refine s_store rfl rfl (hk4.far hg1_4 (Ne.symm hne_g3_4)) i_a64_uint32 rfl (Nat.le_of_ble_eq_true rfl) rfl ?_
  intro w1_5 hg1_5 hk1_5
  have hb1_5 : Below w.heap.size w1_4 w1_5 := (Below.refl _ _).grown hg1_5 (Below.trans hB4 hb1_4).size (fun k hk => by cases hk; exact hgB4)
  have hB1_5 : Below w.heap.size w w1_5 := (Below.trans (Below.trans hB4 hb1_4) hb1_5)
  replace hk1_5 : Blk w1_5 g4 ty_a64_uint32 (shaK.map u32v) := hk1_5.whole rfl (by simp [Value.cells])
  have hk1_5W : g3 < w1_5.heap.size := (hk1_4.far hg1_5 hne_g3_4).lt
  refine G_nil ?_
  refine C_seq ?_
  refine C_region ?_
  refine s_v (y_move rfl) ?_
  refine s_call rfl cl_sha_padded (sha_padded_ok (fun k hk => hF k (Nat.le_trans hB1_5.size hk)) (hv.keep fun k hk _ => hB1_5.block k hk) (by omega)) ?_
  rintro _ w13 ⟨v13, rfl, h13, hx13⟩
  refine ⟨_, rfl, ?_⟩
  have hO13 := h13
  replace h13 := h13.lower hB1_5.size
  refine s_v (y_assign rfl) ?_
  refine G_nil ?_
  refine C_seq ?_
  refine C_seq ?_
  refine C_region ?_
  refine s_v (y_assign rfl) ?_
  refine G_nil ?_
  refine C_block ?_
  refine C_loop (α := Nat) (fun k => [(2, .pointer (some ⟨g2, 0, none⟩)), (3, .pointer (some ⟨g3, 0, none⟩)), (4, .pointer (some ⟨g4, 0, none⟩)), (5, v13), (6, iv ((64 * k : Nat) : Int))]) (fun k w' => 64 * k ≤ (padS bs).length ∧ Blk w' g3 ty_a8_uint32 ((blocksS shaH (padS bs) k).map u32v) ∧ Blk w' g4 ty_a64_uint32 (shaK.map u32v) ∧ Blk w' g2 ty_api_Key ((List.replicate 32 (0 : UInt8)).map u8v) ∧ Kd.u8.Sl (fun q => w1_5.heap.size ≤ q) w' v13 (padS bs) ∧ Below w.heap.size w w') (fun k => (padS bs).length / 64 - k) 0 (.cons rfl (.cons rfl (.cons rfl (.cons rfl (.cons rfl (.nil)))))) ⟨by omega, ((hk1_4.far hg1_5 hne_g3_4).ext hx13), (hk1_5.ext hx13), (((((((hk2.ext hx10).ext hx11).ext hx3).ext hx4).far hg1_4 hne_g2_3).far hg1_5 hne_g2_4).ext hx13), (hO13.flat flat_u8).sl (fun q hq => hq), (Below.ext hB1_5 hx13 hB1_5.size)⟩ ?_
  rintro k wL0 ⟨hk, hw3, hw4, hw2, hs5, hBL⟩
  have hpm := padS_mod bs
  have hpl := padS_len bs
  have hpz : padZ bs.length < 64 := Nat.mod_lt _ (by decide)
  refine C_seq ?_
  refine C_seq ?_
  refine C_region ?_
  refine s_v (y_move rfl) ?_
  refine s_v (y_move rfl) ?_
  refine s_v (y_len rfl hs5 u_sl_uint8) ?_
  refine s_v (y_bin rfl rfl (fun _ => v_lss)) ?_
  refine G_nil ?_
  refine C_if rfl (fun hc17 => ?_) (fun hc17 => ?_)
  · skip
    refine C_skip ?_
    refine C_seq ?_
    refine C_block ?_
    have hSd : (fun w' => Blk w' g4 ty_a64_uint32 (shaK.map u32v)) wL0.drew := hw4
    refine C_draw (S := fun w' => Blk w' g4 ty_a64_uint32 (shaK.map u32v)) rfl rfl ?_
    refine A_take 1 rfl (y_move rfl) hSd (fun _ _ _ h => h) ?_
    refine A_take 2 rfl (y_move rfl) hSd (fun _ _ _ h => h) ?_
    refine A_take 3 rfl (y_move rfl) hSd (fun _ _ _ h => h) ?_
    refine A_take 4 rfl (y_bin rfl rfl (fun _ => v_add (by omega))) hSd (fun _ _ _ h => h) ?_
    refine A_reslice 5 rfl (hs5.ext (Ext.drew wL0)) rfl (.inr ⟨_, rfl, rfl⟩) (.inr ⟨_, rfl, rfl⟩) (by omega) (by omega) (by have := padS_mod bs; omega) u_sl_uint8 i_uint8 hSd (fun _ _ _ h => h) ?_
    intro v25 h25
    refine A_take 6 rfl (y_loadA rfl (fun _ e => e.cells) u_a64_uint32 i_a64_uint32 rfl) hSd (fun _ _ _ h => h) ?_
    refine A_act 0 rfl ?_
    refine s_v (y_loadA rfl (fun _ e => e ▸ ((hw3.ext (Ext.drew wL0)).at_ _)) u_a8_uint32 i_a8_uint32 (by simp [blocksS_len (h := shaH) rfl])) ?_
    refine G_nil ⟨hSd, ?_⟩
    refine A_act 7 rfl ?_
    refine s_call rfl cl_sha_mix (sha_mix_ok (blocksS shaH (padS bs) k) (blocksS_len rfl _ _) h25 (by rw [List.length_drop, List.length_take, Nat.min_eq_left (by omega)]; omega)) ?_
    rintro _ w27 ⟨rfl, hx27⟩
    refine ⟨_, rfl, ?_⟩
    have hB27 : Below w.heap.size w w27 := (Below.ext (Below.ext hBL (Ext.drew wL0) hBL.size) hx27 (Below.ext hBL (Ext.drew wL0) hBL.size).size)
    have hSd7 : (fun w' => Blk w' g4 ty_a64_uint32 (shaK.map u32v)) w27 := (hw4.ext ((Ext.drew wL0).trans hx27))
    refine G_nil ⟨hSd7, ?_⟩
    refine A_act 8 rfl ?_
    refine s_store rfl rfl (hw3.ext ((Ext.drew wL0).trans hx27)) i_a8_uint32 (by simp [Value.cells, mixS_len (blocksS_len (h := shaH) rfl _ _)]) (by simp [blocksS_len (h := shaH) rfl]) (one_map (fun _ => rfl) _) ?_
    intro w6_8 hg6_8 hk6_8
    have hb6_8 : Below w.heap.size w27 w6_8 := (Below.refl _ _).grown hg6_8 hB27.size (fun k hk => by cases hk; exact hgB3)
    replace hk6_8 : Blk w6_8 g3 ty_a8_uint32 ((blocksS shaH (padS bs) (k + 1)).map u32v) := hk6_8.whole (by simp [blocksS_len (h := shaH) rfl]) (by simp [Value.cells, blocksS]; rfl)
    have hSd8 : (fun w' => Blk w' g4 ty_a64_uint32 (shaK.map u32v)) w6_8 := (((hw4.ext (Ext.drew wL0)).ext hx27).far hg6_8 (Ne.symm hne_g3_4))
    refine G_nil ⟨hSd8, ?_⟩
    refine A_done ?_
    refine C_region ?_
    refine s_v (y_move rfl) ?_
    refine s_v (y_bin rfl rfl (fun _ => v_add (by omega))) ?_
    refine s_v (y_assign rfl) ?_
    refine G_nil ?_
    refine ⟨k + 1, .cons rfl (.cons rfl (.cons rfl (.cons rfl (.cons rfl .nil)))), ⟨?_, hk6_8, (((hw4.ext (Ext.drew wL0)).ext hx27).far hg6_8 (Ne.symm hne_g3_4)), (((hw2.ext (Ext.drew wL0)).ext hx27).far hg6_8 hne_g2_3), ((hs5.ext ((Ext.drew wL0).trans hx27)).keep fun q hq hq2 => hg6_8.block q hq (fun e => ?_)), (Below.trans hB27 hb6_8)⟩, ?_⟩
    · omega
    · cases e; have := hk1_5W; omega
    · omega
  · skip
    have hm := padS_mod bs
    obtain rfl : k = (padS bs).length / 64 := by omega
    refine C_exit ?_
    refine C_seq ?_
    refine C_region ?_
    refine s_v (y_assign rfl) ?_
    refine G_nil ?_
    refine C_seq ?_
    refine C_seq ?_
    refine C_region ?_
    refine s_v (y_loadA rfl (fun _ e => e ▸ hw3.cells) u_a8_uint32 i_a8_uint32 (by simp [blocksS_len (h := shaH) rfl])) ?_
    refine s_v (y_move rfl) ?_
    refine G_nil ?_
    refine C_block ?_
    refine C_loop (α := Nat × Value) (fun (k, u) => [(2, .pointer (some ⟨g2, 0, none⟩)), (28, .agg ((blocksS shaH (padS bs) ((padS bs).length / 64)).map u32v).toArray), (29, iv (k : Int)), (7, u)]) (fun (k, u) w' => k ≤ 8 ∧ Kd.u8.Own F w.heap.size ty_uint8 w' u (((blocksS shaH (padS bs) ((padS bs).length / 64)).take k).flatMap be32) ∧ Blk w' g2 ty_api_Key ((List.replicate 32 (0 : UInt8)).map u8v) ∧ Below w.heap.size w w') (fun (k, u) => 8 - k) (0, .slice none 0 0) (.cons rfl (.cons rfl (.cons rfl (.cons rfl (.nil))))) ⟨Nat.zero_le _, Kd.Own.nil _ _ _ _ _, hw2, hBL⟩ ?_
    rintro ⟨k, u⟩ wL2 ⟨hk, hu, hw2, hBL2⟩
    have hul : (((blocksS shaH (padS bs) ((padS bs).length / 64)).take k).flatMap be32).length ≤ 64 := by rw [be32s_len, List.length_take]; omega
    refine C_seq ?_
    refine C_region ?_
    refine s_v (y_bin rfl rfl (fun _ => v_lss)) ?_
    refine G_nil ?_
    refine C_seq ?_
    refine C_if rfl (fun hc30 => ?_) (fun hc30 => ?_)
    · skip
      replace hk : k < 8 := by omega
      obtain ⟨x, hxk⟩ : ∃ x, (blocksS shaH (padS bs) ((padS bs).length / 64))[k]? = some x := ⟨_, List.getElem?_eq_getElem (by rw [blocksS_len rfl]; omega)⟩
      refine C_skip ?_
      refine C_seq ?_
      refine C_block ?_
      refine C_seq ?_
      refine C_region ?_
      refine s_v (y_index rfl rfl (by omega) (by omega) (map_some hxk) u_a8_uint32 u_uint32 i_uint32) ?_
      refine s_v (y_assign rfl) ?_
      refine G_nil ?_
      refine C_region ?_
      refine s_v (y_move rfl) ?_
      refine s_v (y_move rfl) ?_
      refine s_call rfl cl_words_Put32 (words_Put32_ok _ (fun k hk => hF k (Nat.le_trans hBL2.size hk)) (hu.sl (fun k hk => hF k hk)) (by omega)) ?_
      rintro _ w34 ⟨v34, rfl, h34, hx34⟩
      refine ⟨_, rfl, ?_⟩
      have hO34 := h34
      replace h34 := h34.lower hBL2.size
      refine s_v (y_assign rfl) ?_
      refine G_nil ?_
      refine C_region ?_
      refine s_v (y_bin rfl rfl (fun _ => v_add (by omega))) ?_
      refine s_v (y_move rfl) ?_
      refine G_nil ?_
      refine ⟨(k + 1, v34), .cons rfl (.cons rfl (.cons rfl (.cons rfl .nil))), ⟨by omega, ?_, (hw2.ext hx34), (Below.ext hBL2 hx34 hBL2.size)⟩, by simp only []; omega⟩
      rw [take_snoc _ k x hxk, List.flatMap_append]
      simpa using h34
    · skip
      obtain rfl : k = 8 := by omega
      have hsh : ((blocksS shaH (padS bs) ((padS bs).length / 64)).take 8).flatMap be32 = shaS bs := by rw [List.take_of_length_le (by rw [blocksS_len rfl]; omega)]; rfl
      rw [hsh] at hu
      refine C_exit ?_
      refine C_seq ?_
      refine C_region ?_
      refine s_v (y_move rfl) ?_
      refine s_toArr rfl (hu.sl (fun k hk => hF k hk)) u_api_Key (by rw [shaS_len]) (by intro h; have := shaS_len bs; rw [h] at this; cases this) ?_
      rintro ad37 cs37 hF37 he37 hc37
      obtain rfl := Kd.Els.unmap he37
      refine s_v (y_loadA rfl (fun _ e => e ▸ hc37) u_api_Key i_api_Key (by simp [shaS_len])) ?_
      refine s_store rfl rfl hw2 i_api_Key (by simp [Value.cells, shaS_len]) (by simp) (one_map (fun _ => rfl) _) ?_
      intro w13_3 hg13_3 hk13_3
      have hb13_3 : Below w.heap.size wL2 w13_3 := (Below.refl _ _).grown hg13_3 hBL2.size (fun k hk => by cases hk; exact hgB2)
      replace hk13_3 := hk13_3.whole (es := (shaS bs).map u8v) (by simp) (by simp [Value.cells])
      refine G_nil ?_
      refine C_ret ?_
      exact ⟨_, (.cell rfl (ldA (hk13_3.at_ _) u_api_Key i_api_Key (by simp [shaS_len])) .nil), rfl, (Below.trans hBL2 hb13_3)⟩

theorem partsS_snoc (l : List (List UInt8)) (x : List UInt8) : partsS (l ++ [x]) = partsS l ++ be64 (UInt64.ofNat x.length) ++ x := by simp [partsS]
/-- How long the parts are together. -/
def partsL (l : List (List UInt8)) : Nat := (partsS l).length

theorem sha_Parts_ok {F : Nat → Prop} {w : World} {v : Value} {L : List (List UInt8)} (hF : ∀ k, w.heap.size ≤ k → F k) (hv : (Kd.slice Kd.u8).Sl F w v L) (hl : (partsS L).length ≤ 2 ^ 36) :
    Calls Pr N_sha_Parts #[v] w fun e w' => e = .returned (.agg ((shaS (partsS L)).map u8v).toArray) ∧ Ext w w' := by
  refine calls (args := [v]) fn_sha_Parts rfl rfl rfl rfl ?_
  refine C_seq ?_
  refine C_region ?_
  refine s_alloc i_api_Key ?_
  intro g2 w2 hgB2 hx2 hk2
  have hgb2 := hgB2
  refine G_nil ?_
  refine C_seq ?_
  refine C_region ?_
  refine s_v (y_assign rfl) ?_
  refine G_nil ?_
  refine C_seq ?_
  refine C_seq ?_
  refine C_region ?_
  refine s_v (y_move rfl) ?_
  refine s_v (y_len rfl hv u_sl_sl_uint8) ?_
  refine s_v (y_move rfl) ?_
  refine G_nil ?_
  refine C_block ?_
  refine C_loop (α := Nat × Value) (fun (k, u) => [(2, .pointer (some ⟨g2, 0, none⟩)), (3, u), (6, v), (7, iv (L.length : Int)), (8, iv (k : Int))]) (fun (k, u) w' => k ≤ L.length ∧ Kd.u8.Own F w.heap.size ty_uint8 w' u (partsS (L.take k)) ∧ Blk w' g2 ty_api_Key ((List.replicate 32 (0 : UInt8)).map u8v) ∧ Below w.heap.size w w') (fun (k, u) => L.length - k) (0, .slice none 0 0) (.cons rfl (.cons rfl (.cons rfl (.cons rfl (.cons rfl (.nil)))))) ⟨Nat.zero_le _, Kd.Own.nil _ _ _ _ _, hk2, hx2⟩ ?_
  rintro ⟨k, u⟩ wL0 ⟨hk, hu, hw2, hBL⟩
  have hvl := hv.len_le
  simp only [maxLen] at hvl
  refine C_seq ?_
  refine C_region ?_
  refine s_v (y_bin rfl rfl (fun _ => v_lss)) ?_
  refine G_nil ?_
  refine C_seq ?_
  refine C_if rfl (fun hc9 => ?_) (fun hc9 => ?_)
  · skip
    replace hk : k < L.length := by omega
    obtain ⟨x, hxk⟩ : ∃ x, L[k]? = some x := ⟨_, List.getElem?_eq_getElem (by omega)⟩
    have hsn := partsS_snoc (L.take k) x
    rw [← take_snoc L k x hxk] at hsn
    have hle2 : (partsS (L.take (k + 1))).length ≤ (partsS L).length := by (have e : partsS L = partsS (L.take (k + 1)) ++ partsS (L.drop (k + 1)) := by unfold partsS; rw [← List.flatMap_append, List.take_append_drop]); rw [e, List.length_append]; omega
    rw [hsn] at hle2
    simp only [List.length_append, be64_len] at hle2
    refine C_skip ?_
    refine C_seq ?_
    refine C_block ?_
    refine C_seq ?_
    refine C_region ?_
    refine s_idx rfl rfl (hv.keep fun k hk _ => hBL.block k hk) (by omega) hxk u_sl_sl_uint8 i_sl_uint8 ?_
    rintro ad10 _ hF10 ⟨v10, rfl, hs10⟩ hc10
    refine s_v (y_load rfl (fun _ e => e ▸ hc10) u_sl_uint8) ?_
    refine s_v (y_assign rfl) ?_
    refine G_nil ?_
    refine C_region ?_
    refine s_v (y_move rfl) ?_
    refine s_v (y_move rfl) ?_
    refine s_v (y_len rfl hs10 u_sl_uint8) ?_
    refine s_v (y_conv rfl (cv_i64_u64 rfl u_int u_uint64)) ?_
    refine s_call rfl cl_words_Put64 (words_Put64_ok _ (fun k hk => hF k (Nat.le_trans hBL.size hk)) (hu.sl (fun k hk => hF k hk)) (by omega)) ?_
    rintro _ w16 ⟨v16, rfl, h16, hx16⟩
    refine ⟨_, rfl, ?_⟩
    have hO16 := h16
    replace h16 := h16.lower hBL.size
    refine s_v (y_move rfl) ?_
    refine s_append (K := Kd.u8) rfl rfl h16 (hs10.ext hx16) u_sl_uint8 i_uint8 rfl flat_u8 (by simp only [List.length_append, be64_len, maxLen]; omega) (by simp only [List.length_append, be64_len]; omega) (Below.ext hBL hx16 hBL.size).size ?_
    intro v18 w18 h18 hg18 hb18
    have hB18 : Below w.heap.size w w18 := (Below.trans (Below.ext hBL hx16 hBL.size) hb18)
    refine s_v (y_assign rfl) ?_
    refine G_nil ?_
    refine C_region ?_
    refine s_v (y_bin rfl rfl (fun _ => v_add (by omega))) ?_
    refine s_v (y_move rfl) ?_
    refine G_nil ?_
    refine ⟨(k + 1, v18), .cons rfl (.cons rfl (.cons rfl (.cons rfl (.cons rfl .nil)))), ⟨by omega, ?_, ((hw2.ext hx16).kd h16 hg18 (by decide)), hB18⟩, by simp only []; omega⟩
    rw [hsn]
    exact h18
  · skip
    obtain rfl : k = L.length := by omega
    rw [List.take_length] at hu
    refine C_exit ?_
    refine C_seq ?_
    refine C_region ?_
    refine s_v (y_move rfl) ?_
    refine s_call rfl cl_sha_Sum (sha_Sum_ok (hu.sl (fun k hk => hF k hk)) (by omega)) ?_
    rintro _ w21 ⟨rfl, hx21⟩
    refine ⟨_, rfl, ?_⟩
    refine s_store rfl rfl (hw2.ext hx21) i_api_Key (by simp [Value.cells, shaS_len]) (by simp) (one_map (fun _ => rfl) _) ?_
    intro w7_2 hg7_2 hk7_2
    have hb7_2 : Below w.heap.size w21 w7_2 := (Below.refl _ _).grown hg7_2 (Below.ext hBL hx21 hBL.size).size (fun k hk => by cases hk; exact hgB2)
    have hB7_2 : Below w.heap.size w w7_2 := (Below.trans (Below.ext hBL hx21 hBL.size) hb7_2)
    replace hk7_2 := hk7_2.whole (es := (shaS (partsS L)).map u8v) (by simp) (by simp [Value.cells])
    refine G_nil ?_
    refine C_ret ?_
    exact ⟨_, (.cell rfl (ldA (hk7_2.at_ _) u_api_Key i_api_Key (by simp [shaS_len])) .nil), rfl, hB7_2⟩
end Go.Proofs.YtdaphjnenookiaaDoor
