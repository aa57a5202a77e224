/- What the named stream and keys.Make compute. -/
import Derived.Test.YtdaphjnenookiaaDoorProg
import Derived.Test.YtdaphjnenookiaaDoorNm
import Derived.Test.YtdaphjnenookiaaDoorwords
import Derived.Test.YtdaphjnenookiaaDoorsha
import Derived.Test.YtdaphjnenookiaaDoorrsha
import Derived.Test.YtdaphjnenookiaaDoorscal
import Derived.Test.YtdaphjnenookiaaDoorgrp
import Derived.Test.YtdaphjnenookiaaDoorprf
import Derived.Test.YtdaphjnenookiaaDoorkys
import Derived.Test.YtdaphjnenookiaaDoorchk
namespace Go.Proofs.YtdaphjnenookiaaDoor
open Go Go.RowKit Go.Proofs
set_option linter.unusedVariables false
set_option linter.unusedSimpArgs false
set_option maxRecDepth 4000


def digB : ByteArray := ⟨#[48, 49, 50, 51, 52, 53, 54, 55, 56, 57, 97, 98, 99, 100, 101, 102, 103, 104, 105, 106, 107, 108, 109, 110, 111, 112, 113, 114, 115, 116, 117, 118, 119, 120, 121, 122]⟩
def smallB : ByteArray := ⟨#[48, 48, 48, 49, 48, 50, 48, 51, 48, 52, 48, 53, 48, 54, 48, 55, 48, 56, 48, 57, 49, 48, 49, 49, 49, 50, 49, 51, 49, 52, 49, 53, 49, 54, 49, 55, 49, 56, 49, 57, 50, 48, 50, 49, 50, 50, 50, 51, 50, 52, 50, 53, 50, 54, 50, 55, 50, 56, 50, 57, 51, 48, 51, 49, 51, 50, 51, 51, 51, 52, 51, 53, 51, 54, 51, 55, 51, 56, 51, 57, 52, 48, 52, 49, 52, 50, 52, 51, 52, 52, 52, 53, 52, 54, 52, 55, 52, 56, 52, 57, 53, 48, 53, 49, 53, 50, 53, 51, 53, 52, 53, 53, 53, 54, 53, 55, 53, 56, 53, 57, 54, 48, 54, 49, 54, 50, 54, 51, 54, 52, 54, 53, 54, 54, 54, 55, 54, 56, 54, 57, 55, 48, 55, 49, 55, 50, 55, 51, 55, 52, 55, 53, 55, 54, 55, 55, 55, 56, 55, 57, 56, 48, 56, 49, 56, 50, 56, 51, 56, 52, 56, 53, 56, 54, 56, 55, 56, 56, 56, 57, 57, 48, 57, 49, 57, 50, 57, 51, 57, 52, 57, 53, 57, 54, 57, 55, 57, 56, 57, 57]⟩
def spB : ByteArray := ⟨#[32]⟩
/-- A number below a hundred, in letters. -/
def decS (n : Nat) : ByteArray := if n < 10 then digB.extract n (n + 1) else smallB.extract (2 * n) (2 * n + 2)
theorem decS_size (n : Nat) : (decS n).size ≤ 2 := by
  unfold decS
  split
  · rw [ByteArray.size_extract]; omega
  · rw [ByteArray.size_extract]; omega
def addName (s : ByteArray) (x : Int) : ByteArray := s ++ (spB ++ decS x.toNat)
def namedS (nm : ByteArray) (l : List Int) : ByteArray := l.foldl addName nm
theorem namedS_snoc (nm : ByteArray) (l : List Int) (x : Int) : namedS nm (l ++ [x]) = addName (namedS nm l) x := by unfold namedS; rw [List.foldl_append]; rfl
theorem addName_size (s : ByteArray) (x : Int) : (addName s x).size ≤ s.size + 3 := by
  unfold addName
  rw [ByteArray.size_append, ByteArray.size_append]
  have := decS_size x.toNat
  have h : spB.size = 1 := rfl
  omega
theorem namedS_size (l : List Int) : ∀ nm : ByteArray, (namedS nm l).size ≤ nm.size + 3 * l.length := by
  induction l with
  | nil => intro nm; simp [namedS]
  | cons x l ih =>
    intro nm
    have h1 := ih (addName nm x)
    have h2 := addName_size nm x
    show (namedS (addName nm x) l).size ≤ _
    rw [List.length_cons]
    omega

theorem internal_strconv_small_ok {w : World} (i : Nat) (hi : i < 100) :
    Calls Pr N_internal_strconv_small #[iv (i : Int)] w fun e w' => e = .returned (.string (decS i)) ∧ w = w' := by
  refine calls (args := [iv (i : Int)]) fn_internal_strconv_small rfl rfl rfl rfl ?_
  refine C_seq ?_
  refine C_region ?_
  refine s_v (y_assign rfl) ?_
  refine G_nil ?_
  refine C_seq ?_
  refine C_seq ?_
  refine C_region ?_
  refine s_v (y_move rfl) ?_
  refine s_v (y_bin rfl rfl (fun _ => v_lss)) ?_
  refine G_nil ?_
  refine C_if rfl (fun hc4 => ?_) (fun hc4 => ?_)
  · skip
    refine C_seq ?_
    refine C_region ?_
    refine s_v (y_move rfl) ?_
    refine s_v (y_move rfl) ?_
    refine s_v (y_bin rfl rfl (fun _ => v_add (by omega))) ?_
    refine s_v (y_sliceStr rfl rfl rfl (by omega) (by omega) (by show _ ≤ (36 : Int); omega) u_string) ?_
    refine s_v (y_assign rfl) ?_
    refine G_nil ?_
    refine C_ret ?_
    first | (refine ⟨_, (.tmp rfl .nil), ?_, rfl⟩; rw [show decS i = digB.extract i (i + 1) from if_pos (by omega)]; rfl) | (refine ⟨_, (.tmp rfl .nil), ?_, rfl⟩; rw [show decS i = smallB.extract (2 * i) (2 * i + 2) from if_neg (by omega)]; rw [show ((i : Int) * 2).toNat = 2 * i from by omega, show ((i : Int) * 2 + 2).toNat = 2 * i + 2 from by omega]; rfl)
  · skip
    refine C_skip ?_
    refine C_seq ?_
    refine C_region ?_
    refine s_v (y_move rfl) ?_
    refine s_v (y_bin rfl rfl (fun _ => v_mul (by omega))) ?_
    refine s_v (y_move rfl) ?_
    refine s_v (y_bin rfl rfl (fun _ => v_mul (by omega))) ?_
    refine s_v (y_bin rfl rfl (fun _ => v_add (by omega))) ?_
    refine s_v (y_sliceStr rfl rfl rfl (by omega) (by omega) (by show _ ≤ (200 : Int); omega) u_string) ?_
    refine s_v (y_assign rfl) ?_
    refine G_nil ?_
    refine C_ret ?_
    first | (refine ⟨_, (.tmp rfl .nil), ?_, rfl⟩; rw [show decS i = digB.extract i (i + 1) from if_pos (by omega)]; rfl) | (refine ⟨_, (.tmp rfl .nil), ?_, rfl⟩; rw [show decS i = smallB.extract (2 * i) (2 * i + 2) from if_neg (by omega)]; rw [show ((i : Int) * 2).toNat = 2 * i from by omega, show ((i : Int) * 2 + 2).toNat = 2 * i + 2 from by omega]; rfl)

theorem internal_strconv_FormatInt_ok {w : World} (i : Nat) (hi : i < 100) :
    Calls Pr N_internal_strconv_FormatInt #[iv (i : Int), iv 10] w fun e w' => e = .returned (.string (decS i)) ∧ w = w' := by
  refine calls (args := [iv (i : Int), iv 10]) fn_internal_strconv_FormatInt rfl rfl rfl rfl ?_
  refine C_seq ?_
  refine C_region ?_
  refine s_v (y_assign rfl) ?_
  refine G_nil ?_
  refine C_seq ?_
  refine C_seq ?_
  refine C_region ?_
  refine s_v (y_move rfl) ?_
  refine s_v (y_bin rfl rfl (fun _ => v_eql)) ?_
  refine G_nil ?_
  refine C_if rfl (fun hc11 => ?_) (fun hc11 => ?_)
  · skip
    refine C_seq ?_
    refine C_seq ?_
    refine C_region ?_
    refine s_v (y_move rfl) ?_
    refine s_v (y_bin rfl rfl (fun _ => v_leq)) ?_
    refine s_v (y_move rfl) ?_
    refine G_case 14 rfl (fun hg14 => ?_) (fun hg14 => ?_)
    · skip
      try replace hg14 := of_decide_eq_true hg14
      refine s_yes rfl rfl rfl ?_
      refine s_v (y_move rfl) ?_
      refine s_yes rfl rfl rfl ?_
      refine s_v (y_bin rfl rfl (fun _ => v_lss)) ?_
      refine s_v (y_pick rfl rfl) ?_
      refine G_nil ?_
      refine C_if rfl (fun hc17 => ?_) (fun hc17 => ?_)
      · skip
        refine C_seq ?_
        refine C_region ?_
        refine s_v (y_move rfl) ?_
        refine s_call rfl cl_internal_strconv_small (internal_strconv_small_ok _ (by omega)) ?_
        rintro _ _ ⟨rfl, rfl⟩
        refine ⟨_, rfl, ?_⟩
        refine s_v (y_assign rfl) ?_
        refine G_nil ?_
        refine C_ret ?_
        exact ⟨_, (.tmp rfl .nil), rfl, rfl⟩
      · skip
        exact absurd (by omega) hc17
        /-done-/
    · skip
      try replace hg14 := of_decide_eq_false hg14
      exact absurd (by omega) hg14
      /-done-/
  · skip
    exact absurd rfl hc11
    /-done-/

theorem internal_strconv_Itoa_ok {w : World} (i : Nat) (hi : i < 100) :
    Calls Pr N_internal_strconv_Itoa #[iv (i : Int)] w fun e w' => e = .returned (.string (decS i)) ∧ w = w' := by
  refine calls (args := [iv (i : Int)]) fn_internal_strconv_Itoa rfl rfl rfl rfl ?_
  refine C_seq ?_
  refine C_region ?_
  refine s_v (y_assign rfl) ?_
  refine G_nil ?_
  refine C_seq ?_
  refine C_region ?_
  refine s_v (y_move rfl) ?_
  refine s_call rfl cl_internal_strconv_FormatInt (internal_strconv_FormatInt_ok _ (by omega)) ?_
  rintro _ _ ⟨rfl, rfl⟩
  refine ⟨_, rfl, ?_⟩
  refine s_v (y_assign rfl) ?_
  refine G_nil ?_
  refine C_ret ?_
  exact ⟨_, (.tmp rfl .nil), rfl, rfl⟩

theorem strconv_Itoa_ok {w : World} (i : Nat) (hi : i < 100) :
    Calls Pr N_strconv_Itoa #[iv (i : Int)] w fun e w' => e = .returned (.string (decS i)) ∧ w = w' := by
  refine calls (args := [iv (i : Int)]) fn_strconv_Itoa rfl rfl rfl rfl ?_
  refine C_seq ?_
  refine C_region ?_
  refine s_v (y_assign rfl) ?_
  refine G_nil ?_
  refine C_seq ?_
  refine C_region ?_
  refine s_v (y_move rfl) ?_
  refine s_call rfl cl_internal_strconv_Itoa (internal_strconv_Itoa_ok _ (by omega)) ?_
  rintro _ _ ⟨rfl, rfl⟩
  refine ⟨_, rfl, ?_⟩
  refine s_v (y_assign rfl) ?_
  refine G_nil ?_
  refine C_ret ?_
  exact ⟨_, (.tmp rfl .nil), rfl, rfl⟩

theorem keys_Named_ok {F : Nat → Prop} {w : World} {v : Value} {l : List Int} (nm : ByteArray) (hn : nm.size ≤ 900) (hv : Kd.int.Sl F w v l) (hl : l.length ≤ 10) (hr : ∀ x ∈ l, 0 ≤ x ∧ x < 100) :
    Calls Pr N_keys_Named #[.string nm, v] w fun e w' => e = .returned (.string (namedS nm l)) ∧ w = w' := by
  refine calls (args := [.string nm, v]) fn_keys_Named rfl rfl rfl rfl ?_
  refine C_seq ?_
  refine C_region ?_
  refine s_v (y_assign rfl) ?_
  refine G_nil ?_
  refine C_seq ?_
  refine C_seq ?_
  refine C_region ?_
  refine s_v (y_move rfl) ?_
  refine s_v (y_len rfl hv u_sl_int) ?_
  refine s_v (y_move rfl) ?_
  refine G_nil ?_
  refine C_block ?_
  refine C_loop (α := Nat) (fun k => [(0, .string (namedS nm (l.take k))), (7, v), (8, iv (l.length : Int)), (9, iv (k : Int))]) (fun k w' => k ≤ l.length ∧ w = w') (fun k => l.length - k) 0 (.cons rfl (.cons rfl (.cons rfl (.cons rfl (.nil))))) ⟨Nat.zero_le _, rfl⟩ ?_
  rintro k _ ⟨hk, rfl⟩
  refine C_seq ?_
  refine C_region ?_
  refine s_v (y_bin rfl rfl (fun _ => v_lss)) ?_
  refine G_nil ?_
  refine C_seq ?_
  refine C_if rfl (fun hc10 => ?_) (fun hc10 => ?_)
  · skip
    replace hk : k < l.length := by omega
    obtain ⟨x, hxk⟩ : ∃ x, l[k]? = some x := ⟨_, List.getElem?_eq_getElem (by omega)⟩
    have hxr := hr x (List.mem_of_getElem? hxk)
    obtain ⟨i, rfl⟩ : ∃ i : Nat, x = i := ⟨x.toNat, by omega⟩
    have hsz := namedS_size (l.take k) nm
    have htl : (l.take k).length = k := by rw [List.length_take]; omega
    have hds := decS_size i
    refine C_skip ?_
    refine C_seq ?_
    refine C_block ?_
    refine C_seq ?_
    refine C_region ?_
    refine s_idx rfl rfl hv (by omega) hxk u_sl_int i_int ?_
    rintro ad11 _ hF11 ⟨rfl, hi11, hj11⟩ hc11
    refine s_v (y_load rfl (fun _ e => e ▸ hc11) u_int) ?_
    refine s_v (y_assign rfl) ?_
    refine G_nil ?_
    refine C_region ?_
    refine s_v (y_move rfl) ?_
    refine s_v (y_move rfl) ?_
    refine s_call rfl cl_strconv_Itoa (strconv_Itoa_ok i (by omega)) ?_
    rintro _ _ ⟨rfl, rfl⟩
    refine ⟨_, rfl, ?_⟩
    refine s_v (y_bin rfl rfl (fun _ => v_cat (by show 1 + _ ≤ _; simp only [maxLen]; omega))) ?_
    refine s_v (y_bin rfl rfl (fun _ => v_cat (by rw [ByteArray.size_append]; show _ + (1 + _) ≤ _; simp only [maxLen]; omega))) ?_
    refine s_v (y_assign rfl) ?_
    refine G_nil ?_
    refine C_region ?_
    refine s_v (y_bin rfl rfl (fun _ => v_add (by omega))) ?_
    refine s_v (y_move rfl) ?_
    refine G_nil ?_
    refine ⟨k + 1, .cons (by rw [take_snoc l k _ hxk, namedS_snoc]; rfl) (.cons rfl (.cons rfl (.cons rfl .nil))), ⟨by omega, rfl⟩, by omega⟩
  · skip
    obtain rfl : k = l.length := by omega
    refine C_exit ?_
    refine C_seq ?_
    refine C_region ?_
    refine s_v (y_move rfl) ?_
    refine s_v (y_assign rfl) ?_
    refine G_nil ?_
    refine C_ret ?_
    refine ⟨_, (.tmp rfl .nil), ?_, rfl⟩
    rw [List.take_length]
    rfl

/-- A stream's cells: the seed, the name, the count, the present sum. -/
def SC (key : List UInt8) (nm : ByteArray) (c : UInt64) (sm : List UInt8) : List Value := key.map u8v ++ (Value.string nm :: u64v c :: sm.map u8v)
def blockS (key : List UInt8) (nm : ByteArray) (q : UInt64) : List UInt8 := shaS (partsS [key, nm.data.toList, be64 q])
def wordS (key : List UInt8) (nm : ByteArray) (c : UInt64) : UInt64 := (getS (blockS key nm (c / 4)) (8 * ((c % 4).toNat : Int)) 8).1
/-- A stream in memory. -/
def ScE (w : World) (g : Nat) (T : TypeId) (key : List UInt8) (nm : ByteArray) (c : UInt64) : Prop := ∃ sm : List UInt8, sm.length = 32 ∧ Blk w g T (SC key nm c sm)
def Strm (w : World) (g : Nat) (T : TypeId) (key : List UInt8) (nm : ByteArray) (c : UInt64) : Prop := ∃ sm : List UInt8, sm.length = 32 ∧ Blk w g T (SC key nm c sm) ∧ (c.toNat % 4 ≠ 0 → sm = blockS key nm (c / 4))
section
variable {w w' : World} {g : Nat} {T : TypeId} {key : List UInt8} {nm : ByteArray} {c : UInt64} {sm : List UInt8}
theorem SC_len (hk : key.length = 32) (hs : sm.length = 32) : (SC key nm c sm).length = 66 := by simp [SC, hk, hs]
theorem sc_key (h : Blk w g T (SC key nm c sm)) : CellsAt w ⟨g, 0, none⟩ (key.map u8v) := h.cells.left
theorem sc_rest (hk : key.length = 32) (h : Blk w g T (SC key nm c sm)) : CellsAt w ⟨g, 32, none⟩ (Value.string nm :: u64v c :: sm.map u8v) := by
  have := h.at_ 32
  rwa [show (SC key nm c sm).drop 32 = Value.string nm :: u64v c :: sm.map u8v from by unfold SC; rw [List.drop_left' (by rw [List.length_map, hk])]] at this
theorem sc_nm (hk : key.length = 32) (h : Blk w g T (SC key nm c sm)) : CellsAt w ⟨g, 32, none⟩ [Value.string nm] := (sc_rest hk h).take 1
theorem sc_cnt (hk : key.length = 32) (h : Blk w g T (SC key nm c sm)) : CellsAt w ⟨g, 33, none⟩ [u64v c] := by
  have := ((sc_rest hk h).drop 1).take 1
  rwa [add_none] at this
theorem sc_sum (hk : key.length = 32) (h : Blk w g T (SC key nm c sm)) : CellsAt w ⟨g, 34, none⟩ (sm.map u8v) := by
  have := (sc_rest hk h).drop 2
  rwa [add_none] at this
theorem sc_split (hk : key.length = 32) : (SC key nm c sm).take 33 = key.map u8v ++ [Value.string nm] ∧ (SC key nm c sm).take 34 = key.map u8v ++ [Value.string nm, u64v c] ∧ (SC key nm c sm).drop 34 = sm.map u8v := by
  unfold SC
  refine ⟨?_, ?_, ?_⟩
  · rw [List.take_append, List.length_map, hk, List.take_of_length_le (by rw [List.length_map, hk]; decide)]; rfl
  · rw [List.take_append, List.length_map, hk, List.take_of_length_le (by rw [List.length_map, hk]; decide)]; rfl
  · rw [List.drop_append, List.length_map, hk, List.drop_of_length_le (by rw [List.length_map, hk]; decide)]; rfl
theorem sc_setc (hk : key.length = 32) (c' : UInt64) : (SC key nm c sm).take 33 ++ [u64v c'] ++ (SC key nm c sm).drop 34 = SC key nm c' sm := by
  rw [(sc_split hk).1, (sc_split hk).2.2]
  simp [SC]
theorem sc_sets (hk : key.length = 32) (hs : sm.length = 32) (sm' : List UInt8) : (SC key nm c sm).take 34 ++ sm'.map u8v ++ (SC key nm c sm).drop 66 = SC key nm c sm' := by
  rw [(sc_split hk).2.1, List.drop_of_length_le (by rw [SC_len hk hs]; exact Nat.le_refl 66)]
  simp [SC]
theorem ScE.name_ (hk : key.length = 32) (h : ScE w g T key nm c) : CellsAt w ⟨g, 32, none⟩ [Value.string nm] := by
  obtain ⟨sm, _, h⟩ := h
  exact sc_nm hk h
theorem ScE.cnt (hk : key.length = 32) (h : ScE w g T key nm c) : CellsAt w ⟨g, 33, none⟩ [u64v c] := by
  obtain ⟨sm, _, h⟩ := h
  exact sc_cnt hk h
theorem Strm.ext (h : Strm w g T key nm c) (hx : Ext w w') : Strm w' g T key nm c := by
  obtain ⟨sm, h1, h2, h3⟩ := h
  exact ⟨sm, h1, h2.ext hx, h3⟩
theorem Strm.lt (h : Strm w g T key nm c) : g < w.heap.size := by
  obtain ⟨sm, h1, h2, h3⟩ := h
  exact h2.lt
theorem Strm.far {g' : Nat} (h : Strm w g T key nm c) (hg : w.grownBy w' (some g')) (hne : g ≠ g') : Strm w' g T key nm c := by
  obtain ⟨sm, h1, h2, h3⟩ := h
  exact ⟨sm, h1, h2.far hg hne, h3⟩
theorem Strm.kd {α : Type} {K : Kd α} {F : Nat → Prop} {B : Nat} {e : TypeId} {v : Value} {xs : List α} (h : Strm w g T key nm c) (ho : K.Own F B e w v xs) (hg : w.grownBy w' v.ownBlock) (hne : T ≠ e) : Strm w' g T key nm c := by
  obtain ⟨sm, h1, h2, h3⟩ := h
  exact ⟨sm, h1, h2.kd ho hg hne, h3⟩
theorem Strm.ne {g' : Nat} {T' : TypeId} {cs : List Value} (h : Strm w g T key nm c) (b : Blk w g' T' cs) (hne : T' ≠ T) : g' ≠ g := by
  intro e
  subst e
  obtain ⟨sm, _, h2, _⟩ := h
  have h3 : w.heap[g']? = some (.cells (SC key nm c sm).toArray T (0, 0)) := h2
  have h4 : w.heap[g']? = some (.cells cs.toArray T' (0, 0)) := b
  rw [h3] at h4
  injection h4 with h4
  injection h4 with _ h4
  exact hne h4.symm
theorem Strm.sb {g' : Nat} {T' : TypeId} {cs : List Value} (h : Strm w g T key nm c) (b : Blk w g' T' cs) (hg : w.grownBy w' (some g')) (hne : T' ≠ T) : Strm w' g T key nm c := h.far hg (h.ne b hne).symm
theorem Blk.sn {g' : Nat} {T' : TypeId} {cs : List Value} (b : Blk w g' T' cs) (h : Strm w g T key nm c) (hg : w.grownBy w' (some g)) (hne : T' ≠ T) : Blk w' g' T' cs := b.far hg (h.ne b hne)
theorem Own_sn {α : Type} {K : Kd α} {F : Nat → Prop} {B : Nat} {e : TypeId} {v : Value} {xs : List α} (ho : K.Own F B e w v xs) (hf : K.Flat) (h : Strm w g T key nm c) (hg : w.grownBy w' (some g)) (hne : T ≠ e) : K.Own F B e w' v xs := by
  obtain ⟨sm, _, h2, _⟩ := h
  exact ho.kb h2 hf hg hne
theorem blockS_len (q : UInt64) : (blockS key nm q).length = 32 := shaS_len _
theorem u64_div4 (c : UInt64) : (c / 4).toNat = c.toNat / 4 := u64_div c 4
theorem u64_mod4 (c : UInt64) : (c % 4).toNat = c.toNat % 4 := u64_mod c 4
theorem next_div {c : UInt64} (hc : c.toNat < 1152921504606846976) (h : (c + 1).toNat % 4 ≠ 0) : (c + 1) / 4 = c / 4 := by
  apply u64_eq
  have h1 : (c + 1).toNat = c.toNat + 1 := by
    rw [u64_add]
    show (_ + 1) % _ = _
    omega
  rw [u64_div4, u64_div4]
  rw [h1] at h ⊢
  omega
theorem mod4_zero {c : UInt64} (h : ¬ c % 4 = 0) : c.toNat % 4 ≠ 0 := by
  intro h1
  apply h
  apply u64_eq
  rw [u64_mod4, h1]; rfl
end


theorem fill_stream {key : List UInt8} {nm : ByteArray} (hk : key.length = 32) (zs : List Value) (hz : zs = List.replicate 32 (u8v 0) ++ (Value.string .empty :: u64v 0 :: List.replicate 32 (u8v 0))) :
    fillL [(0, 32), (32, 1), (33, 1), (34, 32)] zs [(0, .agg (key.map u8v).toArray), (1, .string nm)] = some (SC key nm 0 (List.replicate 32 0)) := by
  have h1 : ((Value.agg (key.map u8v).toArray).cells.size = 32 ∧ 0 + 32 ≤ zs.length) := by subst hz; simp [Value.cells, hk]
  have h2 : zs.take 0 ++ (Value.agg (key.map u8v).toArray).cells.toList ++ zs.drop (0 + 32) = SC key .empty 0 (List.replicate 32 0) := by
    subst hz
    simp [Value.cells, SC]
  have h3 : ((Value.string nm).cells.size = 1 ∧ 32 + 1 ≤ (SC key .empty 0 (List.replicate 32 0)).length) := by rw [SC_len hk (by simp)]; simp [Value.cells]
  have h4 : (SC key .empty 0 (List.replicate 32 0)).take 32 ++ (Value.string nm).cells.toList ++ (SC key .empty 0 (List.replicate 32 0)).drop (32 + 1) = SC key nm 0 (List.replicate 32 0) := by
    unfold SC
    rw [List.take_left' (by rw [List.length_map, hk]), List.drop_append, List.length_map, hk, List.drop_of_length_le (by rw [List.length_map, hk]; decide)]
    simp [Value.cells]
  show (if _ then fillL _ (zs.take 0 ++ (Value.agg (key.map u8v).toArray).cells.toList ++ zs.drop (0 + 32)) _ else none) = _
  rw [if_pos h1, h2]
  show (if _ then fillL _ ((SC key .empty 0 (List.replicate 32 0)).take 32 ++ (Value.string nm).cells.toList ++ (SC key .empty 0 (List.replicate 32 0)).drop (32 + 1)) _ else none) = _
  rw [if_pos h3, h4]
  rfl

theorem beacon_New_ok {w : World} {key : List UInt8} {nm : ByteArray} (hk : key.length = 32) :
    Calls Pr N_beacon_New #[.agg (key.map u8v).toArray, .string nm] w fun e w' => ∃ g, e = .returned (.pointer (some ⟨g, 0, none⟩)) ∧ (w.heap.size ≤ g ∧ Strm w' g ty_beacon_Stream key nm 0) ∧ Ext w w' := by
  refine calls (args := [.agg (key.map u8v).toArray, .string nm]) fn_beacon_New rfl rfl rfl rfl ?_
  refine C_seq ?_
  refine C_region ?_
  refine s_box rfl ?_
  intro g2 w2 hgB2 hx2 hk2
  have hgb2 := hgB2
  replace hk2 : Blk w2 g2 ty_api_Key (key.map u8v) := by simpa [Value.cells] using hk2
  refine s_v (y_assign rfl) ?_
  refine G_nil ?_
  refine C_seq ?_
  refine C_region ?_
  refine s_v (y_loadA rfl (fun _ e => e ▸ (hk2.at_ _)) u_api_Key i_api_Key (by simp [hk])) ?_
  refine s_v (y_move rfl) ?_
  refine s_v (y_build rfl u_beacon_Stream i_beacon_Stream pl_beacon_Stream (fill_stream hk _ rfl)) ?_
  refine s_box rfl ?_
  intro g8 w8 hgB8 hx8 hk8
  have hne_g2_8 : g2 ≠ g8 := Nat.ne_of_lt (Nat.lt_of_lt_of_le hk2.lt hgB8)
  have hgb8 := hgB8
  replace hgB8 := Nat.le_trans hx2.size hgB8
  refine s_v (y_assign rfl) ?_
  refine G_nil ?_
  refine C_ret ?_
  refine ⟨_, (.tmp rfl .nil), g8, rfl, ⟨hgB8, List.replicate 32 0, by simp, by simpa [Value.cells] using hk8, fun h => absurd rfl h⟩, (Below.ext hx2 hx8 hx2.size)⟩

theorem beacon_Stream_Word_ok {w : World} {g : Nat} {key : List UInt8} {nm : ByteArray} {c : UInt64} (hk : key.length = 32) (hnm : nm.size ≤ 1000) (hc : c.toNat < 1152921504606846976) (hs : Strm w g ty_beacon_Stream key nm c) :
    Calls Pr N_beacon_Stream_Word #[.pointer (some ⟨g, 0, none⟩)] w fun e w' => e = .returned (u64v (wordS key nm c)) ∧ Strm w' g ty_beacon_Stream key nm (c + 1) ∧ w.grownBy w' (some g) := by
  obtain ⟨sm, hsl, hsb, hsm⟩ := hs
  have hgw := hsb.lt
  have hm4 : (c % 4).toNat < 4 := by (rw [u64_mod4]; omega)
  have hp8 : (8 * (c % 4)).toNat = 8 * (c % 4).toNat := by (rw [u64_mul]; show (8 * _) % _ = _; omega)
  have e9 : (((8 * (c % 4)).toNat : Nat) : Int) = 8 * ((c % 4).toNat : Int) := by (rw [hp8]; omega)
  have hnl : nm.data.toList.length = nm.size := Array.length_toList
  obtain ⟨F, hF⟩ : ∃ F : Nat → Prop, ∀ k, w.heap.size ≤ k → F k := ⟨fun _ => True, fun _ _ => trivial⟩
  refine calls (args := [.pointer (some ⟨g, 0, none⟩)]) fn_beacon_Stream_Word rfl rfl rfl rfl ?_
  refine C_seq ?_
  refine C_region ?_
  refine s_v (y_assign (v := u64v 0) rfl) ?_
  refine G_nil ?_
  refine C_seq ?_
  refine C_region ?_
  refine s_v (y_move rfl) ?_
  refine s_v (y_nilCheck rfl) ?_
  refine s_v (y_fieldB rfl u_beacon_Stream rfl i_uint64) ?_
  refine s_v (y_load rfl (fun _ e => e ▸ (sc_cnt hk hsb)) u_uint64) ?_
  refine s_v (y_bin rfl rfl (fun _ => v_rem64 _ 4 (by decide))) ?_
  refine s_v (y_assign rfl) ?_
  refine G_nil ?_
  refine C_seq ?_
  refine C_seq ?_
  refine C_region ?_
  refine s_v (y_move rfl) ?_
  refine s_v (y_bin rfl rfl (fun _ => v_eql64 _ 0)) ?_
  refine G_nil ?_
  refine C_if rfl (fun hc12 => ?_) (fun hc12 => ?_)
  · skip
    have hSd : (fun w' => ScE w' g ty_beacon_Stream key nm c) w.drew := ⟨sm, hsl, (hsb.ext (Ext.drew w))⟩
    refine C_draw (S := fun w' => ScE w' g ty_beacon_Stream key nm c) rfl rfl ?_
    have hBd3 : w.grownBy w.drew (some g) := (Mod.ext (World.grownBy.refl w _) (Ext.drew w))
    refine A_take 0 rfl (y_move rfl) hSd (fun _ _ _ h => h) ?_
    refine A_take 1 rfl (y_move rfl) hSd (fun _ _ _ h => h) ?_
    refine A_take 2 rfl (y_nilCheck rfl) hSd (fun _ _ _ h => h) ?_
    refine A_take 3 rfl (y_fieldB rfl u_beacon_Stream rfl i_api_Key) hSd (fun _ _ _ h => h) ?_
    refine A_take 4 rfl (y_sliceB rfl u_api_Key i_uint8) hSd (fun _ _ _ h => h) ?_
    refine A_take 5 rfl (y_move rfl) hSd (fun _ _ _ h => h) ?_
    refine A_take 6 rfl (y_nilCheck rfl) hSd (fun _ _ _ h => h) ?_
    refine A_take 7 rfl (y_fieldB rfl u_beacon_Stream rfl i_string) hSd (fun _ _ _ h => h) ?_
    refine A_take 8 rfl (y_load rfl (fun _ e => (e.name_ hk)) u_string) hSd (fun _ _ _ h => h) ?_
    refine A_take 10 rfl (y_move rfl) hSd (fun _ _ _ h => h) ?_
    refine A_take 11 rfl (y_nilCheck rfl) hSd (fun _ _ _ h => h) ?_
    refine A_take 12 rfl (y_fieldB rfl u_beacon_Stream rfl i_uint64) hSd (fun _ _ _ h => h) ?_
    refine A_take 13 rfl (y_load rfl (fun _ e => (e.cnt hk)) u_uint64) hSd (fun _ _ _ h => h) ?_
    refine A_take 14 rfl (y_bin rfl rfl (fun _ => v_quo64 _ 4 (by decide))) hSd (fun _ _ _ h => h) ?_
    refine A_act2 9 15 rfl rfl ?_ ?_
    · skip
      refine s_cvBytes rfl u_string u_sl_uint8 u_uint8 (by simp only [maxLen]; omega) ?_
      intro v22 w22 h22 hx22
      have hB22 : w.grownBy w22 (some g) := (Mod.ext hBd3 hx22)
      have hSd9 : (fun w' => ScE w' g ty_beacon_Stream key nm c) w22 := ⟨sm, hsl, (hsb.ext ((Ext.drew w).trans hx22))⟩
      refine G_nil ⟨hSd9, ?_⟩
      refine A_act 15 rfl ?_
      refine s_call rfl cl_words_Put64 (words_Put64_ok _ (fun k hk => hF k (Nat.le_trans hB22.size hk)) (Kd.Sl.nil Kd.u8 F _) (by simp)) ?_
      rintro _ w28 ⟨v28, rfl, h28, hx28⟩
      refine ⟨_, rfl, ?_⟩
      have hB28 : w.grownBy w28 (some g) := (Mod.ext hB22 hx28)
      have hO28 := h28
      replace h28 := h28.lower hB22.size
      have hSd15 : (fun w' => ScE w' g ty_beacon_Stream key nm c) w28 := ⟨sm, hsl, (hsb.ext (((Ext.drew w).trans hx22).trans hx28))⟩
      refine G_nil ⟨hSd15, ?_⟩
      refine A_act 16 rfl ?_
      have hr1 : Kd.u8.Sl (fun _ => True) w28 (.slice (some ⟨g, 0, none⟩) 32 32) key := Kd.Sl.ofCells (sc_key (hsb.ext (((Ext.drew w).trans hx22).trans hx28))) (Kd.Els.map _) hk.symm (by decide) trivial
      have hr2 : Kd.u8.Sl (fun _ => True) w28 v22 nm.data.toList := ((h22.tbx hx28).mono fun _ _ _ => trivial)
      have hr3 : Kd.u8.Sl (fun _ => True) w28 v28 (be64 (c / 4)) := ((Kd.Own.flat flat_u8 h28).sl (fun _ _ => trivial))
      refine s_lit (K := (Kd.slice Kd.u8)) (F := fun _ => True) (xs := [key, nm.data.toList, be64 (c / 4)]) rfl rfl rfl rfl u_sl_sl_uint8 i_sl_uint8 rfl (by decide) (by decide) (rows3_sz hr1 hr2 hr3) (Kd.Els.rows3 hr1 hr2 hr3) ?_
      intro v29 w29 h29 hx29
      have hB29 : w.grownBy w29 (some g) := (Mod.ext hB28 hx29)
      have hSd16 : (fun w' => ScE w' g ty_beacon_Stream key nm c) w29 := ⟨sm, hsl, (hsb.ext ((((Ext.drew w).trans hx22).trans hx28).trans hx29))⟩
      refine G_nil ⟨hSd16, ?_⟩
      refine A_act 17 rfl ?_
      refine s_call rfl cl_sha_Parts (sha_Parts_ok (F := fun _ => True) (fun _ _ => trivial) (h29.sl fun _ _ => trivial) (by simp [partsS, be64_len, hk]; omega)) ?_
      rintro _ w30 ⟨rfl, hx30⟩
      refine ⟨_, rfl, ?_⟩
      have hB30 : w.grownBy w30 (some g) := (Mod.ext hB29 hx30)
      have hSd17 : (fun w' => ScE w' g ty_beacon_Stream key nm c) w30 := ⟨sm, hsl, (hsb.ext (((((Ext.drew w).trans hx22).trans hx28).trans hx29).trans hx30))⟩
      refine G_nil ⟨hSd17, ?_⟩
      refine A_take 18 rfl (y_nilCheck rfl) hSd17 (fun _ _ _ h => h) ?_
      refine A_take 19 rfl (y_fieldB rfl u_beacon_Stream rfl i_api_Key) hSd17 (fun _ _ _ h => h) ?_
      refine A_act 20 rfl ?_
      refine s_store rfl rfl (hsb.ext (((((Ext.drew w).trans hx22).trans hx28).trans hx29).trans hx30)) i_api_Key (by simp [Value.cells, shaS_len]) (by rw [SC_len hk hsl]; decide) (one_map (fun _ => rfl) _) ?_
      intro w3_20 hg3_20 hk3_20
      have hB3_20 : w.grownBy w3_20 (some g) := (Mod.grown hB30 hg3_20)
      replace hk3_20 : Blk w3_20 g ty_beacon_Stream (SC key nm c (blockS key nm (c / 4))) := by (rw [← sc_sets hk hsl (blockS key nm (c / 4))]; simpa [Value.cells, blockS] using hk3_20)
      have hSd20 : (fun w' => ScE w' g ty_beacon_Stream key nm c) w3_20 := ⟨_, blockS_len _, hk3_20⟩
      refine G_nil ⟨hSd20, ?_⟩
      refine A_done ?_
      refine C_seq ?_
      refine C_region ?_
      refine s_v (y_move rfl) ?_
      refine s_v (y_nilCheck rfl) ?_
      refine s_v (y_fieldB rfl u_beacon_Stream rfl i_uint64) ?_
      refine s_v (y_load rfl (fun _ e => e ▸ (sc_cnt hk hk3_20)) u_uint64) ?_
      refine s_v (y_bin rfl rfl (fun _ => v_add64 _ 1)) ?_
      refine s_v (y_nilCheck rfl) ?_
      refine s_v (y_fieldB rfl u_beacon_Stream rfl i_uint64) ?_
      refine s_store rfl rfl hk3_20 i_uint64 rfl (by rw [SC_len hk (by first | exact hsl | exact blockS_len _)]; decide) rfl ?_
      intro w4_7 hg4_7 hk4_7
      have hB4_7 : w.grownBy w4_7 (some g) := (Mod.grown hB3_20 hg4_7)
      replace hk4_7 : Blk w4_7 g ty_beacon_Stream (SC key nm (c + 1) (blockS key nm (c / 4))) := by (rw [← sc_setc (c := c) hk]; simpa [Value.cells] using hk4_7)
      refine G_nil ?_
      refine C_seq ?_
      refine C_region ?_
      refine s_v (y_move rfl) ?_
      refine s_v (y_nilCheck rfl) ?_
      refine s_v (y_fieldB rfl u_beacon_Stream rfl i_api_Key) ?_
      refine s_v (y_sliceB rfl u_api_Key i_uint8) ?_
      refine s_v (y_move rfl) ?_
      refine s_v (y_bin rfl rfl (fun _ => v_mul64 8 _)) ?_
      refine s_v (y_conv rfl (cv_u64_i64 (by omega) u_uint64 u_int)) ?_
      refine s_call rfl cl_words_Get64 (words_Get64_ok (by omega) (by omega) (Kd.Sl.ofCells (K := Kd.u8) (F := fun _ => True) (sc_sum hk hk4_7) (Kd.Els.map _) (blockS_len _).symm (by decide) trivial) (by rw [blockS_len]; decide)) ?_
      rintro _ _ ⟨rfl, rfl⟩
      refine ⟨_, rfl, ?_⟩
      refine s_v (y_move rfl) ?_
      refine s_v (y_extract rfl rfl) ?_
      refine s_v (y_extract rfl rfl) ?_
      refine s_v (y_assign rfl) ?_
      refine s_v (y_assign rfl) ?_
      refine G_nil ?_
      refine C_seq ?_
      refine C_region ?_
      refine s_v (y_move rfl) ?_
      refine s_v (y_assign rfl) ?_
      refine G_nil ?_
      refine C_ret ?_
      refine ⟨_, (.tmp rfl .nil), ?_, ⟨blockS key nm (c / 4), blockS_len _, hk4_7, fun h => by rw [next_div hc h]⟩, hB4_7⟩
      rw [e9]
      rfl
    · skip
      refine s_call rfl cl_words_Put64 (words_Put64_ok _ (fun k hk => hF k (Nat.le_trans hBd3.size hk)) (Kd.Sl.nil Kd.u8 F _) (by simp)) ?_
      rintro _ w28 ⟨v28, rfl, h28, hx28⟩
      refine ⟨_, rfl, ?_⟩
      have hB28 : w.grownBy w28 (some g) := (Mod.ext hBd3 hx28)
      have hO28 := h28
      replace h28 := h28.lower hBd3.size
      have hSd15 : (fun w' => ScE w' g ty_beacon_Stream key nm c) w28 := ⟨sm, hsl, (hsb.ext ((Ext.drew w).trans hx28))⟩
      refine G_nil ⟨hSd15, ?_⟩
      refine A_act 9 rfl ?_
      refine s_cvBytes rfl u_string u_sl_uint8 u_uint8 (by simp only [maxLen]; omega) ?_
      intro v22 w22 h22 hx22
      have hB22 : w.grownBy w22 (some g) := (Mod.ext hB28 hx22)
      have hSd9 : (fun w' => ScE w' g ty_beacon_Stream key nm c) w22 := ⟨sm, hsl, (hsb.ext (((Ext.drew w).trans hx28).trans hx22))⟩
      refine G_nil ⟨hSd9, ?_⟩
      refine A_act 16 rfl ?_
      have hr1 : Kd.u8.Sl (fun _ => True) w22 (.slice (some ⟨g, 0, none⟩) 32 32) key := Kd.Sl.ofCells (sc_key (hsb.ext (((Ext.drew w).trans hx28).trans hx22))) (Kd.Els.map _) hk.symm (by decide) trivial
      have hr2 : Kd.u8.Sl (fun _ => True) w22 v22 nm.data.toList := (h22.mono fun _ _ _ => trivial)
      have hr3 : Kd.u8.Sl (fun _ => True) w22 v28 (be64 (c / 4)) := ((Kd.Own.flat flat_u8 (h28.ext hx22)).sl (fun _ _ => trivial))
      refine s_lit (K := (Kd.slice Kd.u8)) (F := fun _ => True) (xs := [key, nm.data.toList, be64 (c / 4)]) rfl rfl rfl rfl u_sl_sl_uint8 i_sl_uint8 rfl (by decide) (by decide) (rows3_sz hr1 hr2 hr3) (Kd.Els.rows3 hr1 hr2 hr3) ?_
      intro v29 w29 h29 hx29
      have hB29 : w.grownBy w29 (some g) := (Mod.ext hB22 hx29)
      have hSd16 : (fun w' => ScE w' g ty_beacon_Stream key nm c) w29 := ⟨sm, hsl, (hsb.ext ((((Ext.drew w).trans hx28).trans hx22).trans hx29))⟩
      refine G_nil ⟨hSd16, ?_⟩
      refine A_act 17 rfl ?_
      refine s_call rfl cl_sha_Parts (sha_Parts_ok (F := fun _ => True) (fun _ _ => trivial) (h29.sl fun _ _ => trivial) (by simp [partsS, be64_len, hk]; omega)) ?_
      rintro _ w30 ⟨rfl, hx30⟩
      refine ⟨_, rfl, ?_⟩
      have hB30 : w.grownBy w30 (some g) := (Mod.ext hB29 hx30)
      have hSd17 : (fun w' => ScE w' g ty_beacon_Stream key nm c) w30 := ⟨sm, hsl, (hsb.ext (((((Ext.drew w).trans hx28).trans hx22).trans hx29).trans hx30))⟩
      refine G_nil ⟨hSd17, ?_⟩
      refine A_take 18 rfl (y_nilCheck rfl) hSd17 (fun _ _ _ h => h) ?_
      refine A_take 19 rfl (y_fieldB rfl u_beacon_Stream rfl i_api_Key) hSd17 (fun _ _ _ h => h) ?_
      refine A_act 20 rfl ?_
      refine s_store rfl rfl (hsb.ext (((((Ext.drew w).trans hx28).trans hx22).trans hx29).trans hx30)) i_api_Key (by simp [Value.cells, shaS_len]) (by rw [SC_len hk hsl]; decide) (one_map (fun _ => rfl) _) ?_
      intro w3_20 hg3_20 hk3_20
      have hB3_20 : w.grownBy w3_20 (some g) := (Mod.grown hB30 hg3_20)
      replace hk3_20 : Blk w3_20 g ty_beacon_Stream (SC key nm c (blockS key nm (c / 4))) := by (rw [← sc_sets hk hsl (blockS key nm (c / 4))]; simpa [Value.cells, blockS] using hk3_20)
      have hSd20 : (fun w' => ScE w' g ty_beacon_Stream key nm c) w3_20 := ⟨_, blockS_len _, hk3_20⟩
      refine G_nil ⟨hSd20, ?_⟩
      refine A_done ?_
      refine C_seq ?_
      refine C_region ?_
      refine s_v (y_move rfl) ?_
      refine s_v (y_nilCheck rfl) ?_
      refine s_v (y_fieldB rfl u_beacon_Stream rfl i_uint64) ?_
      refine s_v (y_load rfl (fun _ e => e ▸ (sc_cnt hk hk3_20)) u_uint64) ?_
      refine s_v (y_bin rfl rfl (fun _ => v_add64 _ 1)) ?_
      refine s_v (y_nilCheck rfl) ?_
      refine s_v (y_fieldB rfl u_beacon_Stream rfl i_uint64) ?_
      refine s_store rfl rfl hk3_20 i_uint64 rfl (by rw [SC_len hk (by first | exact hsl | exact blockS_len _)]; decide) rfl ?_
      intro w4_7 hg4_7 hk4_7
      have hB4_7 : w.grownBy w4_7 (some g) := (Mod.grown hB3_20 hg4_7)
      replace hk4_7 : Blk w4_7 g ty_beacon_Stream (SC key nm (c + 1) (blockS key nm (c / 4))) := by (rw [← sc_setc (c := c) hk]; simpa [Value.cells] using hk4_7)
      refine G_nil ?_
      refine C_seq ?_
      refine C_region ?_
      refine s_v (y_move rfl) ?_
      refine s_v (y_nilCheck rfl) ?_
      refine s_v (y_fieldB rfl u_beacon_Stream rfl i_api_Key) ?_
      refine s_v (y_sliceB rfl u_api_Key i_uint8) ?_
      refine s_v (y_move rfl) ?_
      refine s_v (y_bin rfl rfl (fun _ => v_mul64 8 _)) ?_
      refine s_v (y_conv rfl (cv_u64_i64 (by omega) u_uint64 u_int)) ?_
      refine s_call rfl cl_words_Get64 (words_Get64_ok (by omega) (by omega) (Kd.Sl.ofCells (K := Kd.u8) (F := fun _ => True) (sc_sum hk hk4_7) (Kd.Els.map _) (blockS_len _).symm (by decide) trivial) (by rw [blockS_len]; decide)) ?_
      rintro _ _ ⟨rfl, rfl⟩
      refine ⟨_, rfl, ?_⟩
      refine s_v (y_move rfl) ?_
      refine s_v (y_extract rfl rfl) ?_
      refine s_v (y_extract rfl rfl) ?_
      refine s_v (y_assign rfl) ?_
      refine s_v (y_assign rfl) ?_
      refine G_nil ?_
      refine C_seq ?_
      refine C_region ?_
      refine s_v (y_move rfl) ?_
      refine s_v (y_assign rfl) ?_
      refine G_nil ?_
      refine C_ret ?_
      refine ⟨_, (.tmp rfl .nil), ?_, ⟨blockS key nm (c / 4), blockS_len _, hk4_7, fun h => by rw [next_div hc h]⟩, hB4_7⟩
      rw [e9]
      rfl
  · skip
    obtain rfl := hsm (mod4_zero hc12)
    refine C_skip ?_
    refine C_seq ?_
    refine C_region ?_
    refine s_v (y_move rfl) ?_
    refine s_v (y_nilCheck rfl) ?_
    refine s_v (y_fieldB rfl u_beacon_Stream rfl i_uint64) ?_
    refine s_v (y_load rfl (fun _ e => e ▸ (sc_cnt hk hsb)) u_uint64) ?_
    refine s_v (y_bin rfl rfl (fun _ => v_add64 _ 1)) ?_
    refine s_v (y_nilCheck rfl) ?_
    refine s_v (y_fieldB rfl u_beacon_Stream rfl i_uint64) ?_
    refine s_store rfl rfl hsb i_uint64 rfl (by rw [SC_len hk (by first | exact hsl | exact blockS_len _)]; decide) rfl ?_
    intro w4_7 hg4_7 hk4_7
    have hB4_7 : w.grownBy w4_7 (some g) := (Mod.grown (World.grownBy.refl w _) hg4_7)
    replace hk4_7 : Blk w4_7 g ty_beacon_Stream (SC key nm (c + 1) (blockS key nm (c / 4))) := by (rw [← sc_setc (c := c) hk]; simpa [Value.cells] using hk4_7)
    refine G_nil ?_
    refine C_seq ?_
    refine C_region ?_
    refine s_v (y_move rfl) ?_
    refine s_v (y_nilCheck rfl) ?_
    refine s_v (y_fieldB rfl u_beacon_Stream rfl i_api_Key) ?_
    refine s_v (y_sliceB rfl u_api_Key i_uint8) ?_
    refine s_v (y_move rfl) ?_
    refine s_v (y_bin rfl rfl (fun _ => v_mul64 8 _)) ?_
    refine s_v (y_conv rfl (cv_u64_i64 (by omega) u_uint64 u_int)) ?_
    refine s_call rfl cl_words_Get64 (words_Get64_ok (by omega) (by omega) (Kd.Sl.ofCells (K := Kd.u8) (F := fun _ => True) (sc_sum hk hk4_7) (Kd.Els.map _) (blockS_len _).symm (by decide) trivial) (by rw [blockS_len]; decide)) ?_
    rintro _ _ ⟨rfl, rfl⟩
    refine ⟨_, rfl, ?_⟩
    refine s_v (y_move rfl) ?_
    refine s_v (y_extract rfl rfl) ?_
    refine s_v (y_extract rfl rfl) ?_
    refine s_v (y_assign rfl) ?_
    refine s_v (y_assign rfl) ?_
    refine G_nil ?_
    refine C_seq ?_
    refine C_region ?_
    refine s_v (y_move rfl) ?_
    refine s_v (y_assign rfl) ?_
    refine G_nil ?_
    refine C_ret ?_
    refine ⟨_, (.tmp rfl .nil), ?_, ⟨blockS key nm (c / 4), blockS_len _, hk4_7, fun h => by rw [next_div hc h]⟩, hB4_7⟩
    rw [e9]
    rfl

theorem keys_Make_1_ok {w : World} {g : Nat} {key : List UInt8} {nm : ByteArray} {c : UInt64} (hk : key.length = 32) (hnm : nm.size ≤ 1000) (hc : c.toNat < 1152921504606846976) {gp : Nat} (hp : Blk w gp ty_p_beacon_Stream [.pointer (some ⟨g, 0, none⟩)]) (hs : Strm w g ty_beacon_Stream key nm c) :
    Calls Pr N_keys_Make_1 #[.pointer (some ⟨gp, 0, none⟩)] w fun e w' => e = .returned (u64v (redN (wordS key nm c))) ∧ Strm w' g ty_beacon_Stream key nm (c + 1) ∧ w.grownBy w' (some g) := by
  refine calls (args := [.pointer (some ⟨gp, 0, none⟩)]) fn_keys_Make_1 rfl rfl rfl rfl ?_
  refine C_seq ?_
  refine C_region ?_
  refine s_v (y_assign (v := u64v 0) rfl) ?_
  refine G_nil ?_
  refine C_seq ?_
  refine C_region ?_
  refine s_v (y_load rfl (fun _ e => e ▸ (hp.at_ _)) u_p_beacon_Stream) ?_
  refine s_call rfl cl_beacon_Stream_Word (beacon_Stream_Word_ok hk hnm hc hs) ?_
  rintro _ w3 ⟨rfl, hs3, hg3⟩
  refine ⟨_, rfl, ?_⟩
  have hB3 : w.grownBy w3 (some g) := (Mod.grown (World.grownBy.refl w _) hg3)
  refine s_call rfl cl_scalar_Reduce (scalar_Reduce_ok _) ?_
  rintro _ _ ⟨rfl, rfl⟩
  refine ⟨_, rfl, ?_⟩
  refine s_v (y_assign rfl) ?_
  refine G_nil ?_
  refine C_ret ?_
  exact ⟨_, (.tmp rfl .nil), rfl, hs3, hB3⟩

/-- The stream's words that a mixer's draws are. -/
def keysD (key : List UInt8) (nm : ByteArray) (k : Nat) : List UInt64 := (List.range k).map fun i => redN (wordS key nm (UInt64.ofNat (3 + i)))
def keysN (r c p : Nat) : ByteArray := (namedS ⟨#[107, 101, 121, 115]⟩ [(r : Int), (c : Int), (p : Int)])
theorem keysN_size (r c p : Nat) : (keysN r c p).size ≤ 1000 := Nat.le_trans (namedS_size _ _) (by show 4 + 3 * 3 ≤ 1000; decide)
theorem keysD_succ (key : List UInt8) (nm : ByteArray) (k : Nat) : keysD key nm (k + 1) = keysD key nm k ++ [redN (wordS key nm (UInt64.ofNat (3 + k)))] := by
  unfold keysD
  rw [List.range_succ, List.map_append]; rfl
theorem ofNat_succ64 (n : Nat) : UInt64.ofNat (n + 1) = UInt64.ofNat n + 1 := by
  rw [UInt64.ofNat_add]; rfl
theorem ofNat_small {k : Nat} (h : k < 10) : (UInt64.ofNat (3 + k)).toNat < 1152921504606846976 := by rw [u64_ofNat (by omega)]; omega

theorem keys_Make_ok {F : Nat → Prop} {w : World} {key : List UInt8} (hk : key.length = 32) (r c p : Nat) (hr : r < 100) (hc : c < 100) (hp : p < 100) (hF : ∀ k, w.heap.size ≤ k → F k) :
    Calls Pr N_keys_Make #[.agg (key.map u8v).toArray, iv (r : Int), iv (c : Int), iv (p : Int)] w fun e w' => ∃ v, e = .returned (.tuple #[.agg #[u64v (redN (wordS key (keysN r c p) 0)), u64v (redN (wordS key (keysN r c p) (0 + 1))), u64v (redN (wordS key (keysN r c p) (0 + 1 + 1)))], v]) ∧ Kd.u64.Own F w.heap.size ty_uint64 w' v (keysD key (keysN r c p) 3) ∧ Ext w w' := by
  refine calls (args := [.agg (key.map u8v).toArray, iv (r : Int), iv (c : Int), iv (p : Int)]) fn_keys_Make rfl rfl rfl rfl ?_
  refine C_seq ?_
  refine C_region ?_
  refine s_box rfl ?_
  intro g4 w4 hgB4 hx4 hk4
  have hgb4 := hgB4
  replace hk4 : Blk w4 g4 ty_api_Key (key.map u8v) := by simpa [Value.cells] using hk4
  refine s_alloc i_api_Secrets ?_
  intro g8 w8 hgB8 hx8 hk8
  have hne_g4_8 : g4 ≠ g8 := Nat.ne_of_lt (Nat.lt_of_lt_of_le hk4.lt hgB8)
  have hgb8 := hgB8
  replace hgB8 := Nat.le_trans hx4.size hgB8
  refine s_v (y_assign rfl) ?_
  refine G_nil ?_
  refine C_seq ?_
  have hSd : (fun w' => Blk w' g4 ty_api_Key (key.map u8v)) w8.drew := ((hk4.ext hx8).ext (Ext.drew w8))
  refine C_draw (S := fun w' => Blk w' g4 ty_api_Key (key.map u8v)) rfl rfl ?_
  have hBd1 : Below w.heap.size w w8.drew := (Below.ext (Below.ext hx4 hx8 hx4.size) (Ext.drew w8) (Below.ext hx4 hx8 hx4.size).size)
  refine A_take 0 rfl (y_loadA rfl (fun _ e => e.cells) u_api_Key i_api_Key (by simp [hk])) hSd (fun _ _ _ h => h) ?_
  refine A_take 1 rfl (y_move rfl) hSd (fun _ _ _ h => h) ?_
  refine A_take 2 rfl (y_move rfl) hSd (fun _ _ _ h => h) ?_
  refine A_take 3 rfl (y_move rfl) hSd (fun _ _ _ h => h) ?_
  refine A_act2 4 7 rfl rfl ?_ ?_
  · skip
    refine s_lit (K := Kd.int) (F := F) (xs := [(r : Int), (c : Int), (p : Int)]) rfl rfl rfl rfl u_sl_int i_int rfl (by decide) (by decide) (by simp [Value.cells, Kd.int]) (show Kd.int.Els F _ ([iv (r : Int)] ++ ([iv (c : Int)] ++ ([iv (p : Int)] ++ []))) [(r : Int), (c : Int), (p : Int)] from .cons ⟨rfl, by omega, by omega⟩ (.cons ⟨rfl, by omega, by omega⟩ (.cons ⟨rfl, by omega, by omega⟩ .nil))) ?_
    intro v18 w18 h18 hx18
    have hSd4 : (fun w' => Blk w' g4 ty_api_Key (key.map u8v)) w18 := (hk4.ext ((hx8.trans (Ext.drew w8)).trans hx18))
    refine G_nil ⟨hSd4, ?_⟩
    refine A_act2 5 7 rfl rfl ?_ ?_
    · skip
      refine s_call rfl cl_keys_Named (keys_Named_ok ⟨#[107, 101, 121, 115]⟩ (by decide) ((h18.lower hBd1.size).sl (fun k hk => hF k hk)) (by simp) (by simp; omega)) ?_
      rintro _ _ ⟨rfl, rfl⟩
      refine ⟨_, rfl, ?_⟩
      have hSd5 : (fun w' => Blk w' g4 ty_api_Key (key.map u8v)) w18 := (hk4.ext ((hx8.trans (Ext.drew w8)).trans hx18))
      refine G_nil ⟨hSd5, ?_⟩
      refine A_act2 6 7 rfl rfl ?_ ?_
      · skip
        refine s_call rfl cl_beacon_New (beacon_New_ok hk) ?_
        rintro _ w20 ⟨q20, rfl, ⟨hge20, hst20⟩, hx20⟩
        refine ⟨_, rfl, ?_⟩
        have hgq : w.heap.size ≤ q20 := Nat.le_trans (Below.ext hBd1 hx18 hBd1.size).size hge20
        replace hst20 : Strm w20 q20 ty_beacon_Stream key (keysN r c p) 0 := hst20
        have hB20 : Below w.heap.size w w20 := (Below.ext (Below.ext hBd1 hx18 hBd1.size) hx20 (Below.ext hBd1 hx18 hBd1.size).size)
        have hSd6 : (fun w' => Blk w' g4 ty_api_Key (key.map u8v)) w20 := (hk4.ext (((hx8.trans (Ext.drew w8)).trans hx18).trans hx20))
        refine G_nil ⟨hSd6, ?_⟩
        refine A_act 7 rfl ?_
        refine s_alloc i_p_beacon_Stream ?_
        intro g10 w10 hgB10 hx10 hk10
        have hne_g4_10 : g4 ≠ g10 := Nat.ne_of_lt (Nat.lt_of_lt_of_le (hk4.ext (((hx8.trans (Ext.drew w8)).trans hx18).trans hx20)).lt hgB10)
        have hne_g8_10 : g8 ≠ g10 := Nat.ne_of_lt (Nat.lt_of_lt_of_le (hk8.ext (((Ext.drew w8).trans hx18).trans hx20)).lt hgB10)
        have hgb10 := hgB10
        replace hgB10 := Nat.le_trans hB20.size hgB10
        have hSd7 : (fun w' => Blk w' g4 ty_api_Key (key.map u8v)) w10 := (hk4.ext ((((hx8.trans (Ext.drew w8)).trans hx18).trans hx20).trans hx10))
        refine G_nil ⟨hSd7, ?_⟩
        refine A_act 8 rfl ?_
        refine s_store rfl rfl hk10 i_p_beacon_Stream rfl (Nat.le_of_ble_eq_true rfl) rfl ?_
        intro w1_8 hg1_8 hk1_8
        have hb1_8 : Below w.heap.size w10 w1_8 := (Below.refl _ _).grown hg1_8 (Below.ext hB20 hx10 hB20.size).size (fun k hk => by cases hk; exact hgB10)
        have hB1_8 : Below w.heap.size w w1_8 := (Below.trans (Below.ext hB20 hx10 hB20.size) hb1_8)
        replace hk1_8 : Blk w1_8 g10 ty_p_beacon_Stream [.pointer (some ⟨q20, 0, none⟩)] := hk1_8
        have hSd8 : (fun w' => Blk w' g4 ty_api_Key (key.map u8v)) w1_8 := ((((((hk4.ext hx8).ext (Ext.drew w8)).ext hx18).ext hx20).ext hx10).far hg1_8 hne_g4_10)
        refine G_nil ⟨hSd8, ?_⟩
        refine A_done ?_
        refine C_seq ?_
        refine C_region ?_
        refine s_v (y_makeFunc rfl) ?_
        refine s_v (y_assign rfl) ?_
        refine G_nil ?_
        refine C_seq ?_
        refine C_region ?_
        refine s_v (y_move rfl) ?_
        have hsC23 := ((hst20.ext hx10).sb hk10 hg1_8 (by decide))
        refine s_callv (f := N_keys_Make_1) rfl rfl cl_keys_Make_1 (keys_Make_1_ok hk (keysN_size r c p) (by decide) hk1_8 hsC23) ?_
        rintro _ w23 ⟨rfl, hs23, hg23⟩
        refine ⟨_, rfl, ?_⟩
        have hb23 : Below w.heap.size w1_8 w23 := (Below.refl _ _).grown hg23 hB1_8.size (fun k hk => by cases hk; exact hgq)
        refine s_v (y_move rfl) ?_
        have hsC25 := hs23
        refine s_callv (f := N_keys_Make_1) rfl rfl cl_keys_Make_1 (keys_Make_1_ok hk (keysN_size r c p) (by decide) (Blk.sn hk1_8 hsC23 hg23 (by decide)) hsC25) ?_
        rintro _ w25 ⟨rfl, hs25, hg25⟩
        refine ⟨_, rfl, ?_⟩
        have hb25 : Below w.heap.size w23 w25 := (Below.refl _ _).grown hg25 (Below.trans hB1_8 hb23).size (fun k hk => by cases hk; exact hgq)
        have hB25 : Below w.heap.size w w25 := (Below.trans (Below.trans hB1_8 hb23) hb25)
        refine s_v (y_move rfl) ?_
        have hsC27 := hs25
        refine s_callv (f := N_keys_Make_1) rfl rfl cl_keys_Make_1 (keys_Make_1_ok hk (keysN_size r c p) (by decide) (Blk.sn (Blk.sn hk1_8 hsC23 hg23 (by decide)) hsC25 hg25 (by decide)) hsC27) ?_
        rintro _ w27 ⟨rfl, hs27, hg27⟩
        refine ⟨_, rfl, ?_⟩
        have hb27 : Below w.heap.size w25 w27 := (Below.refl _ _).grown hg27 hB25.size (fun k hk => by cases hk; exact hgq)
        refine s_v (y_build rfl u_api_Secrets i_api_Secrets pl_api_Secrets rfl) ?_
        refine s_alloc i_api_Secrets ?_
        intro g12 w12 hgB12 hx12 hk12
        have hne_g10_12 : g10 ≠ g12 := Nat.ne_of_lt (Nat.lt_of_lt_of_le (Blk.sn (Blk.sn (Blk.sn hk1_8 hsC23 hg23 (by decide)) hsC25 hg25 (by decide)) hsC27 hg27 (by decide)).lt hgB12)
        have hne_g4_12 : g4 ≠ g12 := Nat.ne_of_lt (Nat.lt_of_lt_of_le (Blk.sn (Blk.sn (Blk.sn ((((((hk4.ext hx8).ext (Ext.drew w8)).ext hx18).ext hx20).ext hx10).far hg1_8 hne_g4_10) hsC23 hg23 (by decide)) hsC25 hg25 (by decide)) hsC27 hg27 (by decide)).lt hgB12)
        have hne_g8_12 : g8 ≠ g12 := Nat.ne_of_lt (Nat.lt_of_lt_of_le (Blk.sn (Blk.sn (Blk.sn (((((hk8.ext (Ext.drew w8)).ext hx18).ext hx20).ext hx10).far hg1_8 hne_g8_10) hsC23 hg23 (by decide)) hsC25 hg25 (by decide)) hsC27 hg27 (by decide)).lt hgB12)
        have hgb12 := hgB12
        replace hgB12 := Nat.le_trans (Below.trans hB25 hb27).size hgB12
        have hB12 : Below w.heap.size w w12 := (Below.ext (Below.trans hB25 hb27) hx12 (Below.trans hB25 hb27).size)
        refine s_store rfl rfl hk12 i_api_Secrets rfl (Nat.le_of_ble_eq_true rfl) rfl ?_
        intro w3_8 hg3_8 hk3_8
        have hb3_8 : Below w.heap.size w12 w3_8 := (Below.refl _ _).grown hg3_8 hB12.size (fun k hk => by cases hk; exact hgB12)
        replace hk3_8 : Blk w3_8 g12 ty_api_Secrets [u64v (redN (wordS key (keysN r c p) 0)), u64v (redN (wordS key (keysN r c p) (0 + 1))), u64v (redN (wordS key (keysN r c p) (0 + 1 + 1)))] := hk3_8
        refine G_nil ?_
        refine C_seq ?_
        refine C_region ?_
        refine s_v (y_assign rfl) ?_
        refine G_nil ?_
        refine C_seq ?_
        refine C_seq ?_
        refine C_region ?_
        refine s_v (y_move rfl) ?_
        refine G_nil ?_
        refine C_block ?_
        refine C_loop (α := Nat × Value) (fun (k, u) => [(8, .pointer (some ⟨g8, 0, none⟩)), (11, .func (.func N_keys_Make_1) #[] #[.pointer (some ⟨g10, 0, none⟩)]), (12, .pointer (some ⟨g12, 0, none⟩)), (13, u), (29, iv (k : Int))]) (fun (k, u) w' => k ≤ 3 ∧ Kd.u64.Own F w.heap.size ty_uint64 w' u (keysD key (keysN r c p) k) ∧ Strm w' q20 ty_beacon_Stream key (keysN r c p) (UInt64.ofNat (3 + k)) ∧ Blk w' g10 ty_p_beacon_Stream [.pointer (some ⟨q20, 0, none⟩)] ∧ Blk w' g12 ty_api_Secrets [u64v (redN (wordS key (keysN r c p) 0)), u64v (redN (wordS key (keysN r c p) (0 + 1))), u64v (redN (wordS key (keysN r c p) (0 + 1 + 1)))] ∧ Blk w' g8 ty_api_Secrets [u64v 0, u64v 0, u64v 0] ∧ Below w.heap.size w w') (fun (k, u) => 3 - k) (0, .slice none 0 0) (.cons rfl (.cons rfl (.cons rfl (.cons rfl (.cons rfl (.nil)))))) ⟨Nat.zero_le _, Kd.Own.nil _ _ _ _ _, ((hs27.ext hx12).sb hk12 hg3_8 (by decide)), (((Blk.sn (Blk.sn (Blk.sn hk1_8 hsC23 hg23 (by decide)) hsC25 hg25 (by decide)) hsC27 hg27 (by decide)).ext hx12).far hg3_8 hne_g10_12), hk3_8, (((Blk.sn (Blk.sn (Blk.sn (((((hk8.ext (Ext.drew w8)).ext hx18).ext hx20).ext hx10).far hg1_8 hne_g8_10) hsC23 hg23 (by decide)) hsC25 hg25 (by decide)) hsC27 hg27 (by decide)).ext hx12).far hg3_8 hne_g8_12), (Below.trans hB12 hb3_8)⟩ ?_
        rintro ⟨k, u⟩ wL0 ⟨hk3, hu, hsL, hw10, hw12, hw8, hBL⟩
        refine C_seq ?_
        refine C_region ?_
        refine s_v (y_bin rfl rfl (fun _ => v_lss)) ?_
        refine G_nil ?_
        refine C_seq ?_
        refine C_if rfl (fun hc30 => ?_) (fun hc30 => ?_)
        · skip
          refine C_skip ?_
          refine C_seq ?_
          refine C_block ?_
          refine C_region ?_
          refine s_v (y_move rfl) ?_
          refine s_v (y_move rfl) ?_
          have hsC33 := hsL
          refine s_callv (f := N_keys_Make_1) rfl rfl cl_keys_Make_1 (keys_Make_1_ok hk (keysN_size r c p) (ofNat_small (by omega)) hw10 hsC33) ?_
          rintro _ w33 ⟨rfl, hs33, hg33⟩
          refine ⟨_, rfl, ?_⟩
          have hb33 : Below w.heap.size wL0 w33 := (Below.refl _ _).grown hg33 hBL.size (fun k hk => by cases hk; exact hgq)
          refine s_lit (K := Kd.u64) (F := F) (xs := [redN (wordS key (keysN r c p) (UInt64.ofNat (3 + k)))]) rfl rfl rfl rfl u_sl_uint64 i_uint64 rfl (by decide) (by decide) (by simp [Value.cells, Kd.u64, Kd.flat]) (Kd.Els.lits rfl) ?_
          intro v34 w34 h34 hx34
          have hB34 : Below w.heap.size w w34 := (Below.ext (Below.trans hBL hb33) hx34 (Below.trans hBL hb33).size)
          refine s_append (K := Kd.u64) rfl rfl ((Own_sn hu flat_u64 hsC33 hg33 (by decide)).ext hx34) ((h34.lower (Below.trans hBL hb33).size).sl (fun k hk => hF k hk)) u_sl_uint64 i_uint64 rfl flat_u64 (by simp [maxLen, keysD]; omega) (by simp [keysD]; omega) hB34.size ?_
          intro v35 w35 h35 hg35 hb35
          refine s_v (y_assign rfl) ?_
          refine G_nil ?_
          refine C_region ?_
          refine s_v (y_bin rfl rfl (fun _ => v_add (by omega))) ?_
          refine s_v (y_move rfl) ?_
          refine G_nil ?_
          refine ⟨(k + 1, v35), .cons rfl (.cons rfl (.cons rfl (.cons rfl (.cons rfl (.nil))))), ⟨by omega, ?_, ?_, (((Blk.sn hw10 hsC33 hg33 (by decide)).ext hx34).kd ((Own_sn hu flat_u64 hsC33 hg33 (by decide)).ext hx34) hg35 (by decide)), (((Blk.sn hw12 hsC33 hg33 (by decide)).ext hx34).kd ((Own_sn hu flat_u64 hsC33 hg33 (by decide)).ext hx34) hg35 (by decide)), (((Blk.sn hw8 hsC33 hg33 (by decide)).ext hx34).kd ((Own_sn hu flat_u64 hsC33 hg33 (by decide)).ext hx34) hg35 (by decide)), (Below.trans hB34 hb35)⟩, by simp only []; omega⟩
          · rw [keysD_succ]; exact h35
          · rw [show 3 + (k + 1) = (3 + k) + 1 from by omega, ofNat_succ64]; exact ((hs33.ext hx34).kd ((Own_sn hu flat_u64 hsC33 hg33 (by decide)).ext hx34) hg35 (by decide))
        · skip
          obtain rfl : k = 3 := by omega
          refine C_exit ?_
          refine C_seq ?_
          refine C_region ?_
          refine s_v (y_loadA rfl (fun _ e => e ▸ (hw12.at_ _)) u_api_Secrets i_api_Secrets rfl) ?_
          refine s_v (y_move rfl) ?_
          refine s_store rfl rfl hw8 i_api_Secrets rfl (Nat.le_of_ble_eq_true rfl) rfl ?_
          intro w9_2 hg9_2 hk9_2
          have hb9_2 : Below w.heap.size wL0 w9_2 := (Below.refl _ _).grown hg9_2 hBL.size (fun k hk => by cases hk; exact hgB8)
          replace hk9_2 : Blk w9_2 g8 ty_api_Secrets [u64v (redN (wordS key (keysN r c p) 0)), u64v (redN (wordS key (keysN r c p) (0 + 1))), u64v (redN (wordS key (keysN r c p) (0 + 1 + 1)))] := hk9_2
          refine s_v (y_assign rfl) ?_
          refine G_nil ?_
          refine C_ret ?_
          exact ⟨_, (.cell rfl (ldA (hk9_2.at_ _) u_api_Secrets i_api_Secrets rfl) (.tmp rfl .nil)), _, rfl, (hu.kb hw8 flat_u64 hg9_2 (by decide)), (Below.trans hBL hb9_2)⟩
      · skip
        refine s_alloc i_p_beacon_Stream ?_
        intro g10 w10 hgB10 hx10 hk10
        have hne_g4_10 : g4 ≠ g10 := Nat.ne_of_lt (Nat.lt_of_lt_of_le (hk4.ext ((hx8.trans (Ext.drew w8)).trans hx18)).lt hgB10)
        have hne_g8_10 : g8 ≠ g10 := Nat.ne_of_lt (Nat.lt_of_lt_of_le (hk8.ext ((Ext.drew w8).trans hx18)).lt hgB10)
        have hgb10 := hgB10
        replace hgB10 := Nat.le_trans (Below.ext hBd1 hx18 hBd1.size).size hgB10
        have hB10 : Below w.heap.size w w10 := (Below.ext (Below.ext hBd1 hx18 hBd1.size) hx10 (Below.ext hBd1 hx18 hBd1.size).size)
        have hSd7 : (fun w' => Blk w' g4 ty_api_Key (key.map u8v)) w10 := (hk4.ext (((hx8.trans (Ext.drew w8)).trans hx18).trans hx10))
        refine G_nil ⟨hSd7, ?_⟩
        refine A_act 6 rfl ?_
        refine s_call rfl cl_beacon_New (beacon_New_ok hk) ?_
        rintro _ w20 ⟨q20, rfl, ⟨hge20, hst20⟩, hx20⟩
        refine ⟨_, rfl, ?_⟩
        have hgq : w.heap.size ≤ q20 := Nat.le_trans hB10.size hge20
        replace hst20 : Strm w20 q20 ty_beacon_Stream key (keysN r c p) 0 := hst20
        have hSd6 : (fun w' => Blk w' g4 ty_api_Key (key.map u8v)) w20 := (hk4.ext ((((hx8.trans (Ext.drew w8)).trans hx18).trans hx10).trans hx20))
        refine G_nil ⟨hSd6, ?_⟩
        refine A_act 8 rfl ?_
        refine s_store rfl rfl (hk10.ext hx20) i_p_beacon_Stream rfl (Nat.le_of_ble_eq_true rfl) rfl ?_
        intro w1_8 hg1_8 hk1_8
        have hb1_8 : Below w.heap.size w20 w1_8 := (Below.refl _ _).grown hg1_8 (Below.ext hB10 hx20 hB10.size).size (fun k hk => by cases hk; exact hgB10)
        have hB1_8 : Below w.heap.size w w1_8 := (Below.trans (Below.ext hB10 hx20 hB10.size) hb1_8)
        replace hk1_8 : Blk w1_8 g10 ty_p_beacon_Stream [.pointer (some ⟨q20, 0, none⟩)] := hk1_8
        have hSd8 : (fun w' => Blk w' g4 ty_api_Key (key.map u8v)) w1_8 := ((((((hk4.ext hx8).ext (Ext.drew w8)).ext hx18).ext hx10).ext hx20).far hg1_8 hne_g4_10)
        refine G_nil ⟨hSd8, ?_⟩
        refine A_done ?_
        refine C_seq ?_
        refine C_region ?_
        refine s_v (y_makeFunc rfl) ?_
        refine s_v (y_assign rfl) ?_
        refine G_nil ?_
        refine C_seq ?_
        refine C_region ?_
        refine s_v (y_move rfl) ?_
        have hsC23 := (hst20.sb (hk10.ext hx20) hg1_8 (by decide))
        refine s_callv (f := N_keys_Make_1) rfl rfl cl_keys_Make_1 (keys_Make_1_ok hk (keysN_size r c p) (by decide) hk1_8 hsC23) ?_
        rintro _ w23 ⟨rfl, hs23, hg23⟩
        refine ⟨_, rfl, ?_⟩
        have hb23 : Below w.heap.size w1_8 w23 := (Below.refl _ _).grown hg23 hB1_8.size (fun k hk => by cases hk; exact hgq)
        refine s_v (y_move rfl) ?_
        have hsC25 := hs23
        refine s_callv (f := N_keys_Make_1) rfl rfl cl_keys_Make_1 (keys_Make_1_ok hk (keysN_size r c p) (by decide) (Blk.sn hk1_8 hsC23 hg23 (by decide)) hsC25) ?_
        rintro _ w25 ⟨rfl, hs25, hg25⟩
        refine ⟨_, rfl, ?_⟩
        have hb25 : Below w.heap.size w23 w25 := (Below.refl _ _).grown hg25 (Below.trans hB1_8 hb23).size (fun k hk => by cases hk; exact hgq)
        have hB25 : Below w.heap.size w w25 := (Below.trans (Below.trans hB1_8 hb23) hb25)
        refine s_v (y_move rfl) ?_
        have hsC27 := hs25
        refine s_callv (f := N_keys_Make_1) rfl rfl cl_keys_Make_1 (keys_Make_1_ok hk (keysN_size r c p) (by decide) (Blk.sn (Blk.sn hk1_8 hsC23 hg23 (by decide)) hsC25 hg25 (by decide)) hsC27) ?_
        rintro _ w27 ⟨rfl, hs27, hg27⟩
        refine ⟨_, rfl, ?_⟩
        have hb27 : Below w.heap.size w25 w27 := (Below.refl _ _).grown hg27 hB25.size (fun k hk => by cases hk; exact hgq)
        refine s_v (y_build rfl u_api_Secrets i_api_Secrets pl_api_Secrets rfl) ?_
        refine s_alloc i_api_Secrets ?_
        intro g12 w12 hgB12 hx12 hk12
        have hne_g10_12 : g10 ≠ g12 := Nat.ne_of_lt (Nat.lt_of_lt_of_le (Blk.sn (Blk.sn (Blk.sn hk1_8 hsC23 hg23 (by decide)) hsC25 hg25 (by decide)) hsC27 hg27 (by decide)).lt hgB12)
        have hne_g4_12 : g4 ≠ g12 := Nat.ne_of_lt (Nat.lt_of_lt_of_le (Blk.sn (Blk.sn (Blk.sn ((((((hk4.ext hx8).ext (Ext.drew w8)).ext hx18).ext hx10).ext hx20).far hg1_8 hne_g4_10) hsC23 hg23 (by decide)) hsC25 hg25 (by decide)) hsC27 hg27 (by decide)).lt hgB12)
        have hne_g8_12 : g8 ≠ g12 := Nat.ne_of_lt (Nat.lt_of_lt_of_le (Blk.sn (Blk.sn (Blk.sn (((((hk8.ext (Ext.drew w8)).ext hx18).ext hx10).ext hx20).far hg1_8 hne_g8_10) hsC23 hg23 (by decide)) hsC25 hg25 (by decide)) hsC27 hg27 (by decide)).lt hgB12)
        have hgb12 := hgB12
        replace hgB12 := Nat.le_trans (Below.trans hB25 hb27).size hgB12
        have hB12 : Below w.heap.size w w12 := (Below.ext (Below.trans hB25 hb27) hx12 (Below.trans hB25 hb27).size)
        refine s_store rfl rfl hk12 i_api_Secrets rfl (Nat.le_of_ble_eq_true rfl) rfl ?_
        intro w3_8 hg3_8 hk3_8
        have hb3_8 : Below w.heap.size w12 w3_8 := (Below.refl _ _).grown hg3_8 hB12.size (fun k hk => by cases hk; exact hgB12)
        replace hk3_8 : Blk w3_8 g12 ty_api_Secrets [u64v (redN (wordS key (keysN r c p) 0)), u64v (redN (wordS key (keysN r c p) (0 + 1))), u64v (redN (wordS key (keysN r c p) (0 + 1 + 1)))] := hk3_8
        refine G_nil ?_
        refine C_seq ?_
        refine C_region ?_
        refine s_v (y_assign rfl) ?_
        refine G_nil ?_
        refine C_seq ?_
        refine C_seq ?_
        refine C_region ?_
        refine s_v (y_move rfl) ?_
        refine G_nil ?_
        refine C_block ?_
        refine C_loop (α := Nat × Value) (fun (k, u) => [(8, .pointer (some ⟨g8, 0, none⟩)), (11, .func (.func N_keys_Make_1) #[] #[.pointer (some ⟨g10, 0, none⟩)]), (12, .pointer (some ⟨g12, 0, none⟩)), (13, u), (29, iv (k : Int))]) (fun (k, u) w' => k ≤ 3 ∧ Kd.u64.Own F w.heap.size ty_uint64 w' u (keysD key (keysN r c p) k) ∧ Strm w' q20 ty_beacon_Stream key (keysN r c p) (UInt64.ofNat (3 + k)) ∧ Blk w' g10 ty_p_beacon_Stream [.pointer (some ⟨q20, 0, none⟩)] ∧ Blk w' g12 ty_api_Secrets [u64v (redN (wordS key (keysN r c p) 0)), u64v (redN (wordS key (keysN r c p) (0 + 1))), u64v (redN (wordS key (keysN r c p) (0 + 1 + 1)))] ∧ Blk w' g8 ty_api_Secrets [u64v 0, u64v 0, u64v 0] ∧ Below w.heap.size w w') (fun (k, u) => 3 - k) (0, .slice none 0 0) (.cons rfl (.cons rfl (.cons rfl (.cons rfl (.cons rfl (.nil)))))) ⟨Nat.zero_le _, Kd.Own.nil _ _ _ _ _, ((hs27.ext hx12).sb hk12 hg3_8 (by decide)), (((Blk.sn (Blk.sn (Blk.sn hk1_8 hsC23 hg23 (by decide)) hsC25 hg25 (by decide)) hsC27 hg27 (by decide)).ext hx12).far hg3_8 hne_g10_12), hk3_8, (((Blk.sn (Blk.sn (Blk.sn (((((hk8.ext (Ext.drew w8)).ext hx18).ext hx10).ext hx20).far hg1_8 hne_g8_10) hsC23 hg23 (by decide)) hsC25 hg25 (by decide)) hsC27 hg27 (by decide)).ext hx12).far hg3_8 hne_g8_12), (Below.trans hB12 hb3_8)⟩ ?_
        rintro ⟨k, u⟩ wL0 ⟨hk3, hu, hsL, hw10, hw12, hw8, hBL⟩
        refine C_seq ?_
        refine C_region ?_
        refine s_v (y_bin rfl rfl (fun _ => v_lss)) ?_
        refine G_nil ?_
        refine C_seq ?_
        refine C_if rfl (fun hc30 => ?_) (fun hc30 => ?_)
        · skip
          refine C_skip ?_
          refine C_seq ?_
          refine C_block ?_
          refine C_region ?_
          refine s_v (y_move rfl) ?_
          refine s_v (y_move rfl) ?_
          have hsC33 := hsL
          refine s_callv (f := N_keys_Make_1) rfl rfl cl_keys_Make_1 (keys_Make_1_ok hk (keysN_size r c p) (ofNat_small (by omega)) hw10 hsC33) ?_
          rintro _ w33 ⟨rfl, hs33, hg33⟩
          refine ⟨_, rfl, ?_⟩
          have hb33 : Below w.heap.size wL0 w33 := (Below.refl _ _).grown hg33 hBL.size (fun k hk => by cases hk; exact hgq)
          refine s_lit (K := Kd.u64) (F := F) (xs := [redN (wordS key (keysN r c p) (UInt64.ofNat (3 + k)))]) rfl rfl rfl rfl u_sl_uint64 i_uint64 rfl (by decide) (by decide) (by simp [Value.cells, Kd.u64, Kd.flat]) (Kd.Els.lits rfl) ?_
          intro v34 w34 h34 hx34
          have hB34 : Below w.heap.size w w34 := (Below.ext (Below.trans hBL hb33) hx34 (Below.trans hBL hb33).size)
          refine s_append (K := Kd.u64) rfl rfl ((Own_sn hu flat_u64 hsC33 hg33 (by decide)).ext hx34) ((h34.lower (Below.trans hBL hb33).size).sl (fun k hk => hF k hk)) u_sl_uint64 i_uint64 rfl flat_u64 (by simp [maxLen, keysD]; omega) (by simp [keysD]; omega) hB34.size ?_
          intro v35 w35 h35 hg35 hb35
          refine s_v (y_assign rfl) ?_
          refine G_nil ?_
          refine C_region ?_
          refine s_v (y_bin rfl rfl (fun _ => v_add (by omega))) ?_
          refine s_v (y_move rfl) ?_
          refine G_nil ?_
          refine ⟨(k + 1, v35), .cons rfl (.cons rfl (.cons rfl (.cons rfl (.cons rfl (.nil))))), ⟨by omega, ?_, ?_, (((Blk.sn hw10 hsC33 hg33 (by decide)).ext hx34).kd ((Own_sn hu flat_u64 hsC33 hg33 (by decide)).ext hx34) hg35 (by decide)), (((Blk.sn hw12 hsC33 hg33 (by decide)).ext hx34).kd ((Own_sn hu flat_u64 hsC33 hg33 (by decide)).ext hx34) hg35 (by decide)), (((Blk.sn hw8 hsC33 hg33 (by decide)).ext hx34).kd ((Own_sn hu flat_u64 hsC33 hg33 (by decide)).ext hx34) hg35 (by decide)), (Below.trans hB34 hb35)⟩, by simp only []; omega⟩
          · rw [keysD_succ]; exact h35
          · rw [show 3 + (k + 1) = (3 + k) + 1 from by omega, ofNat_succ64]; exact ((hs33.ext hx34).kd ((Own_sn hu flat_u64 hsC33 hg33 (by decide)).ext hx34) hg35 (by decide))
        · skip
          obtain rfl : k = 3 := by omega
          refine C_exit ?_
          refine C_seq ?_
          refine C_region ?_
          refine s_v (y_loadA rfl (fun _ e => e ▸ (hw12.at_ _)) u_api_Secrets i_api_Secrets rfl) ?_
          refine s_v (y_move rfl) ?_
          refine s_store rfl rfl hw8 i_api_Secrets rfl (Nat.le_of_ble_eq_true rfl) rfl ?_
          intro w9_2 hg9_2 hk9_2
          have hb9_2 : Below w.heap.size wL0 w9_2 := (Below.refl _ _).grown hg9_2 hBL.size (fun k hk => by cases hk; exact hgB8)
          replace hk9_2 : Blk w9_2 g8 ty_api_Secrets [u64v (redN (wordS key (keysN r c p) 0)), u64v (redN (wordS key (keysN r c p) (0 + 1))), u64v (redN (wordS key (keysN r c p) (0 + 1 + 1)))] := hk9_2
          refine s_v (y_assign rfl) ?_
          refine G_nil ?_
          refine C_ret ?_
          exact ⟨_, (.cell rfl (ldA (hk9_2.at_ _) u_api_Secrets i_api_Secrets rfl) (.tmp rfl .nil)), _, rfl, (hu.kb hw8 flat_u64 hg9_2 (by decide)), (Below.trans hBL hb9_2)⟩
    · skip
      refine s_alloc i_p_beacon_Stream ?_
      intro g10 w10 hgB10 hx10 hk10
      have hne_g4_10 : g4 ≠ g10 := Nat.ne_of_lt (Nat.lt_of_lt_of_le (hk4.ext ((hx8.trans (Ext.drew w8)).trans hx18)).lt hgB10)
      have hne_g8_10 : g8 ≠ g10 := Nat.ne_of_lt (Nat.lt_of_lt_of_le (hk8.ext ((Ext.drew w8).trans hx18)).lt hgB10)
      have hgb10 := hgB10
      replace hgB10 := Nat.le_trans (Below.ext hBd1 hx18 hBd1.size).size hgB10
      have hB10 : Below w.heap.size w w10 := (Below.ext (Below.ext hBd1 hx18 hBd1.size) hx10 (Below.ext hBd1 hx18 hBd1.size).size)
      have hSd7 : (fun w' => Blk w' g4 ty_api_Key (key.map u8v)) w10 := (hk4.ext (((hx8.trans (Ext.drew w8)).trans hx18).trans hx10))
      refine G_nil ⟨hSd7, ?_⟩
      refine A_act 5 rfl ?_
      refine s_call rfl cl_keys_Named (keys_Named_ok ⟨#[107, 101, 121, 115]⟩ (by decide) (((h18.lower hBd1.size).ext hx10).sl (fun k hk => hF k hk)) (by simp) (by simp; omega)) ?_
      rintro _ _ ⟨rfl, rfl⟩
      refine ⟨_, rfl, ?_⟩
      have hSd5 : (fun w' => Blk w' g4 ty_api_Key (key.map u8v)) w10 := (hk4.ext (((hx8.trans (Ext.drew w8)).trans hx18).trans hx10))
      refine G_nil ⟨hSd5, ?_⟩
      refine A_act 6 rfl ?_
      refine s_call rfl cl_beacon_New (beacon_New_ok hk) ?_
      rintro _ w20 ⟨q20, rfl, ⟨hge20, hst20⟩, hx20⟩
      refine ⟨_, rfl, ?_⟩
      have hgq : w.heap.size ≤ q20 := Nat.le_trans hB10.size hge20
      replace hst20 : Strm w20 q20 ty_beacon_Stream key (keysN r c p) 0 := hst20
      have hSd6 : (fun w' => Blk w' g4 ty_api_Key (key.map u8v)) w20 := (hk4.ext ((((hx8.trans (Ext.drew w8)).trans hx18).trans hx10).trans hx20))
      refine G_nil ⟨hSd6, ?_⟩
      refine A_act 8 rfl ?_
      refine s_store rfl rfl (hk10.ext hx20) i_p_beacon_Stream rfl (Nat.le_of_ble_eq_true rfl) rfl ?_
      intro w1_8 hg1_8 hk1_8
      have hb1_8 : Below w.heap.size w20 w1_8 := (Below.refl _ _).grown hg1_8 (Below.ext hB10 hx20 hB10.size).size (fun k hk => by cases hk; exact hgB10)
      have hB1_8 : Below w.heap.size w w1_8 := (Below.trans (Below.ext hB10 hx20 hB10.size) hb1_8)
      replace hk1_8 : Blk w1_8 g10 ty_p_beacon_Stream [.pointer (some ⟨q20, 0, none⟩)] := hk1_8
      have hSd8 : (fun w' => Blk w' g4 ty_api_Key (key.map u8v)) w1_8 := ((((((hk4.ext hx8).ext (Ext.drew w8)).ext hx18).ext hx10).ext hx20).far hg1_8 hne_g4_10)
      refine G_nil ⟨hSd8, ?_⟩
      refine A_done ?_
      refine C_seq ?_
      refine C_region ?_
      refine s_v (y_makeFunc rfl) ?_
      refine s_v (y_assign rfl) ?_
      refine G_nil ?_
      refine C_seq ?_
      refine C_region ?_
      refine s_v (y_move rfl) ?_
      have hsC23 := (hst20.sb (hk10.ext hx20) hg1_8 (by decide))
      refine s_callv (f := N_keys_Make_1) rfl rfl cl_keys_Make_1 (keys_Make_1_ok hk (keysN_size r c p) (by decide) hk1_8 hsC23) ?_
      rintro _ w23 ⟨rfl, hs23, hg23⟩
      refine ⟨_, rfl, ?_⟩
      have hb23 : Below w.heap.size w1_8 w23 := (Below.refl _ _).grown hg23 hB1_8.size (fun k hk => by cases hk; exact hgq)
      refine s_v (y_move rfl) ?_
      have hsC25 := hs23
      refine s_callv (f := N_keys_Make_1) rfl rfl cl_keys_Make_1 (keys_Make_1_ok hk (keysN_size r c p) (by decide) (Blk.sn hk1_8 hsC23 hg23 (by decide)) hsC25) ?_
      rintro _ w25 ⟨rfl, hs25, hg25⟩
      refine ⟨_, rfl, ?_⟩
      have hb25 : Below w.heap.size w23 w25 := (Below.refl _ _).grown hg25 (Below.trans hB1_8 hb23).size (fun k hk => by cases hk; exact hgq)
      have hB25 : Below w.heap.size w w25 := (Below.trans (Below.trans hB1_8 hb23) hb25)
      refine s_v (y_move rfl) ?_
      have hsC27 := hs25
      refine s_callv (f := N_keys_Make_1) rfl rfl cl_keys_Make_1 (keys_Make_1_ok hk (keysN_size r c p) (by decide) (Blk.sn (Blk.sn hk1_8 hsC23 hg23 (by decide)) hsC25 hg25 (by decide)) hsC27) ?_
      rintro _ w27 ⟨rfl, hs27, hg27⟩
      refine ⟨_, rfl, ?_⟩
      have hb27 : Below w.heap.size w25 w27 := (Below.refl _ _).grown hg27 hB25.size (fun k hk => by cases hk; exact hgq)
      refine s_v (y_build rfl u_api_Secrets i_api_Secrets pl_api_Secrets rfl) ?_
      refine s_alloc i_api_Secrets ?_
      intro g12 w12 hgB12 hx12 hk12
      have hne_g10_12 : g10 ≠ g12 := Nat.ne_of_lt (Nat.lt_of_lt_of_le (Blk.sn (Blk.sn (Blk.sn hk1_8 hsC23 hg23 (by decide)) hsC25 hg25 (by decide)) hsC27 hg27 (by decide)).lt hgB12)
      have hne_g4_12 : g4 ≠ g12 := Nat.ne_of_lt (Nat.lt_of_lt_of_le (Blk.sn (Blk.sn (Blk.sn ((((((hk4.ext hx8).ext (Ext.drew w8)).ext hx18).ext hx10).ext hx20).far hg1_8 hne_g4_10) hsC23 hg23 (by decide)) hsC25 hg25 (by decide)) hsC27 hg27 (by decide)).lt hgB12)
      have hne_g8_12 : g8 ≠ g12 := Nat.ne_of_lt (Nat.lt_of_lt_of_le (Blk.sn (Blk.sn (Blk.sn (((((hk8.ext (Ext.drew w8)).ext hx18).ext hx10).ext hx20).far hg1_8 hne_g8_10) hsC23 hg23 (by decide)) hsC25 hg25 (by decide)) hsC27 hg27 (by decide)).lt hgB12)
      have hgb12 := hgB12
      replace hgB12 := Nat.le_trans (Below.trans hB25 hb27).size hgB12
      have hB12 : Below w.heap.size w w12 := (Below.ext (Below.trans hB25 hb27) hx12 (Below.trans hB25 hb27).size)
      refine s_store rfl rfl hk12 i_api_Secrets rfl (Nat.le_of_ble_eq_true rfl) rfl ?_
      intro w3_8 hg3_8 hk3_8
      have hb3_8 : Below w.heap.size w12 w3_8 := (Below.refl _ _).grown hg3_8 hB12.size (fun k hk => by cases hk; exact hgB12)
      replace hk3_8 : Blk w3_8 g12 ty_api_Secrets [u64v (redN (wordS key (keysN r c p) 0)), u64v (redN (wordS key (keysN r c p) (0 + 1))), u64v (redN (wordS key (keysN r c p) (0 + 1 + 1)))] := hk3_8
      refine G_nil ?_
      refine C_seq ?_
      refine C_region ?_
      refine s_v (y_assign rfl) ?_
      refine G_nil ?_
      refine C_seq ?_
      refine C_seq ?_
      refine C_region ?_
      refine s_v (y_move rfl) ?_
      refine G_nil ?_
      refine C_block ?_
      refine C_loop (α := Nat × Value) (fun (k, u) => [(8, .pointer (some ⟨g8, 0, none⟩)), (11, .func (.func N_keys_Make_1) #[] #[.pointer (some ⟨g10, 0, none⟩)]), (12, .pointer (some ⟨g12, 0, none⟩)), (13, u), (29, iv (k : Int))]) (fun (k, u) w' => k ≤ 3 ∧ Kd.u64.Own F w.heap.size ty_uint64 w' u (keysD key (keysN r c p) k) ∧ Strm w' q20 ty_beacon_Stream key (keysN r c p) (UInt64.ofNat (3 + k)) ∧ Blk w' g10 ty_p_beacon_Stream [.pointer (some ⟨q20, 0, none⟩)] ∧ Blk w' g12 ty_api_Secrets [u64v (redN (wordS key (keysN r c p) 0)), u64v (redN (wordS key (keysN r c p) (0 + 1))), u64v (redN (wordS key (keysN r c p) (0 + 1 + 1)))] ∧ Blk w' g8 ty_api_Secrets [u64v 0, u64v 0, u64v 0] ∧ Below w.heap.size w w') (fun (k, u) => 3 - k) (0, .slice none 0 0) (.cons rfl (.cons rfl (.cons rfl (.cons rfl (.cons rfl (.nil)))))) ⟨Nat.zero_le _, Kd.Own.nil _ _ _ _ _, ((hs27.ext hx12).sb hk12 hg3_8 (by decide)), (((Blk.sn (Blk.sn (Blk.sn hk1_8 hsC23 hg23 (by decide)) hsC25 hg25 (by decide)) hsC27 hg27 (by decide)).ext hx12).far hg3_8 hne_g10_12), hk3_8, (((Blk.sn (Blk.sn (Blk.sn (((((hk8.ext (Ext.drew w8)).ext hx18).ext hx10).ext hx20).far hg1_8 hne_g8_10) hsC23 hg23 (by decide)) hsC25 hg25 (by decide)) hsC27 hg27 (by decide)).ext hx12).far hg3_8 hne_g8_12), (Below.trans hB12 hb3_8)⟩ ?_
      rintro ⟨k, u⟩ wL0 ⟨hk3, hu, hsL, hw10, hw12, hw8, hBL⟩
      refine C_seq ?_
      refine C_region ?_
      refine s_v (y_bin rfl rfl (fun _ => v_lss)) ?_
      refine G_nil ?_
      refine C_seq ?_
      refine C_if rfl (fun hc30 => ?_) (fun hc30 => ?_)
      · skip
        refine C_skip ?_
        refine C_seq ?_
        refine C_block ?_
        refine C_region ?_
        refine s_v (y_move rfl) ?_
        refine s_v (y_move rfl) ?_
        have hsC33 := hsL
        refine s_callv (f := N_keys_Make_1) rfl rfl cl_keys_Make_1 (keys_Make_1_ok hk (keysN_size r c p) (ofNat_small (by omega)) hw10 hsC33) ?_
        rintro _ w33 ⟨rfl, hs33, hg33⟩
        refine ⟨_, rfl, ?_⟩
        have hb33 : Below w.heap.size wL0 w33 := (Below.refl _ _).grown hg33 hBL.size (fun k hk => by cases hk; exact hgq)
        refine s_lit (K := Kd.u64) (F := F) (xs := [redN (wordS key (keysN r c p) (UInt64.ofNat (3 + k)))]) rfl rfl rfl rfl u_sl_uint64 i_uint64 rfl (by decide) (by decide) (by simp [Value.cells, Kd.u64, Kd.flat]) (Kd.Els.lits rfl) ?_
        intro v34 w34 h34 hx34
        have hB34 : Below w.heap.size w w34 := (Below.ext (Below.trans hBL hb33) hx34 (Below.trans hBL hb33).size)
        refine s_append (K := Kd.u64) rfl rfl ((Own_sn hu flat_u64 hsC33 hg33 (by decide)).ext hx34) ((h34.lower (Below.trans hBL hb33).size).sl (fun k hk => hF k hk)) u_sl_uint64 i_uint64 rfl flat_u64 (by simp [maxLen, keysD]; omega) (by simp [keysD]; omega) hB34.size ?_
        intro v35 w35 h35 hg35 hb35
        refine s_v (y_assign rfl) ?_
        refine G_nil ?_
        refine C_region ?_
        refine s_v (y_bin rfl rfl (fun _ => v_add (by omega))) ?_
        refine s_v (y_move rfl) ?_
        refine G_nil ?_
        refine ⟨(k + 1, v35), .cons rfl (.cons rfl (.cons rfl (.cons rfl (.cons rfl (.nil))))), ⟨by omega, ?_, ?_, (((Blk.sn hw10 hsC33 hg33 (by decide)).ext hx34).kd ((Own_sn hu flat_u64 hsC33 hg33 (by decide)).ext hx34) hg35 (by decide)), (((Blk.sn hw12 hsC33 hg33 (by decide)).ext hx34).kd ((Own_sn hu flat_u64 hsC33 hg33 (by decide)).ext hx34) hg35 (by decide)), (((Blk.sn hw8 hsC33 hg33 (by decide)).ext hx34).kd ((Own_sn hu flat_u64 hsC33 hg33 (by decide)).ext hx34) hg35 (by decide)), (Below.trans hB34 hb35)⟩, by simp only []; omega⟩
        · rw [keysD_succ]; exact h35
        · rw [show 3 + (k + 1) = (3 + k) + 1 from by omega, ofNat_succ64]; exact ((hs33.ext hx34).kd ((Own_sn hu flat_u64 hsC33 hg33 (by decide)).ext hx34) hg35 (by decide))
      · skip
        obtain rfl : k = 3 := by omega
        refine C_exit ?_
        refine C_seq ?_
        refine C_region ?_
        refine s_v (y_loadA rfl (fun _ e => e ▸ (hw12.at_ _)) u_api_Secrets i_api_Secrets rfl) ?_
        refine s_v (y_move rfl) ?_
        refine s_store rfl rfl hw8 i_api_Secrets rfl (Nat.le_of_ble_eq_true rfl) rfl ?_
        intro w9_2 hg9_2 hk9_2
        have hb9_2 : Below w.heap.size wL0 w9_2 := (Below.refl _ _).grown hg9_2 hBL.size (fun k hk => by cases hk; exact hgB8)
        replace hk9_2 : Blk w9_2 g8 ty_api_Secrets [u64v (redN (wordS key (keysN r c p) 0)), u64v (redN (wordS key (keysN r c p) (0 + 1))), u64v (redN (wordS key (keysN r c p) (0 + 1 + 1)))] := hk9_2
        refine s_v (y_assign rfl) ?_
        refine G_nil ?_
        refine C_ret ?_
        exact ⟨_, (.cell rfl (ldA (hk9_2.at_ _) u_api_Secrets i_api_Secrets rfl) (.tmp rfl .nil)), _, rfl, (hu.kb hw8 flat_u64 hg9_2 (by decide)), (Below.trans hBL hb9_2)⟩
  · skip
    refine s_alloc i_p_beacon_Stream ?_
    intro g10 w10 hgB10 hx10 hk10
    have hne_g4_10 : g4 ≠ g10 := Nat.ne_of_lt (Nat.lt_of_lt_of_le (hk4.ext (hx8.trans (Ext.drew w8))).lt hgB10)
    have hne_g8_10 : g8 ≠ g10 := Nat.ne_of_lt (Nat.lt_of_lt_of_le (hk8.ext (Ext.drew w8)).lt hgB10)
    have hgb10 := hgB10
    replace hgB10 := Nat.le_trans hBd1.size hgB10
    have hSd7 : (fun w' => Blk w' g4 ty_api_Key (key.map u8v)) w10 := (hk4.ext ((hx8.trans (Ext.drew w8)).trans hx10))
    refine G_nil ⟨hSd7, ?_⟩
    refine A_act 4 rfl ?_
    refine s_lit (K := Kd.int) (F := F) (xs := [(r : Int), (c : Int), (p : Int)]) rfl rfl rfl rfl u_sl_int i_int rfl (by decide) (by decide) (by simp [Value.cells, Kd.int]) (show Kd.int.Els F _ ([iv (r : Int)] ++ ([iv (c : Int)] ++ ([iv (p : Int)] ++ []))) [(r : Int), (c : Int), (p : Int)] from .cons ⟨rfl, by omega, by omega⟩ (.cons ⟨rfl, by omega, by omega⟩ (.cons ⟨rfl, by omega, by omega⟩ .nil))) ?_
    intro v18 w18 h18 hx18
    have hB18 : Below w.heap.size w w18 := (Below.ext (Below.ext hBd1 hx10 hBd1.size) hx18 (Below.ext hBd1 hx10 hBd1.size).size)
    have hSd4 : (fun w' => Blk w' g4 ty_api_Key (key.map u8v)) w18 := (hk4.ext (((hx8.trans (Ext.drew w8)).trans hx10).trans hx18))
    refine G_nil ⟨hSd4, ?_⟩
    refine A_act 5 rfl ?_
    refine s_call rfl cl_keys_Named (keys_Named_ok ⟨#[107, 101, 121, 115]⟩ (by decide) ((h18.lower (Below.ext hBd1 hx10 hBd1.size).size).sl (fun k hk => hF k hk)) (by simp) (by simp; omega)) ?_
    rintro _ _ ⟨rfl, rfl⟩
    refine ⟨_, rfl, ?_⟩
    have hSd5 : (fun w' => Blk w' g4 ty_api_Key (key.map u8v)) w18 := (hk4.ext (((hx8.trans (Ext.drew w8)).trans hx10).trans hx18))
    refine G_nil ⟨hSd5, ?_⟩
    refine A_act 6 rfl ?_
    refine s_call rfl cl_beacon_New (beacon_New_ok hk) ?_
    rintro _ w20 ⟨q20, rfl, ⟨hge20, hst20⟩, hx20⟩
    refine ⟨_, rfl, ?_⟩
    have hgq : w.heap.size ≤ q20 := Nat.le_trans hB18.size hge20
    replace hst20 : Strm w20 q20 ty_beacon_Stream key (keysN r c p) 0 := hst20
    have hSd6 : (fun w' => Blk w' g4 ty_api_Key (key.map u8v)) w20 := (hk4.ext ((((hx8.trans (Ext.drew w8)).trans hx10).trans hx18).trans hx20))
    refine G_nil ⟨hSd6, ?_⟩
    refine A_act 8 rfl ?_
    refine s_store rfl rfl (hk10.ext (hx18.trans hx20)) i_p_beacon_Stream rfl (Nat.le_of_ble_eq_true rfl) rfl ?_
    intro w1_8 hg1_8 hk1_8
    have hb1_8 : Below w.heap.size w20 w1_8 := (Below.refl _ _).grown hg1_8 (Below.ext hB18 hx20 hB18.size).size (fun k hk => by cases hk; exact hgB10)
    have hB1_8 : Below w.heap.size w w1_8 := (Below.trans (Below.ext hB18 hx20 hB18.size) hb1_8)
    replace hk1_8 : Blk w1_8 g10 ty_p_beacon_Stream [.pointer (some ⟨q20, 0, none⟩)] := hk1_8
    have hSd8 : (fun w' => Blk w' g4 ty_api_Key (key.map u8v)) w1_8 := ((((((hk4.ext hx8).ext (Ext.drew w8)).ext hx10).ext hx18).ext hx20).far hg1_8 hne_g4_10)
    refine G_nil ⟨hSd8, ?_⟩
    refine A_done ?_
    refine C_seq ?_
    refine C_region ?_
    refine s_v (y_makeFunc rfl) ?_
    refine s_v (y_assign rfl) ?_
    refine G_nil ?_
    refine C_seq ?_
    refine C_region ?_
    refine s_v (y_move rfl) ?_
    have hsC23 := (hst20.sb (hk10.ext (hx18.trans hx20)) hg1_8 (by decide))
    refine s_callv (f := N_keys_Make_1) rfl rfl cl_keys_Make_1 (keys_Make_1_ok hk (keysN_size r c p) (by decide) hk1_8 hsC23) ?_
    rintro _ w23 ⟨rfl, hs23, hg23⟩
    refine ⟨_, rfl, ?_⟩
    have hb23 : Below w.heap.size w1_8 w23 := (Below.refl _ _).grown hg23 hB1_8.size (fun k hk => by cases hk; exact hgq)
    refine s_v (y_move rfl) ?_
    have hsC25 := hs23
    refine s_callv (f := N_keys_Make_1) rfl rfl cl_keys_Make_1 (keys_Make_1_ok hk (keysN_size r c p) (by decide) (Blk.sn hk1_8 hsC23 hg23 (by decide)) hsC25) ?_
    rintro _ w25 ⟨rfl, hs25, hg25⟩
    refine ⟨_, rfl, ?_⟩
    have hb25 : Below w.heap.size w23 w25 := (Below.refl _ _).grown hg25 (Below.trans hB1_8 hb23).size (fun k hk => by cases hk; exact hgq)
    have hB25 : Below w.heap.size w w25 := (Below.trans (Below.trans hB1_8 hb23) hb25)
    refine s_v (y_move rfl) ?_
    have hsC27 := hs25
    refine s_callv (f := N_keys_Make_1) rfl rfl cl_keys_Make_1 (keys_Make_1_ok hk (keysN_size r c p) (by decide) (Blk.sn (Blk.sn hk1_8 hsC23 hg23 (by decide)) hsC25 hg25 (by decide)) hsC27) ?_
    rintro _ w27 ⟨rfl, hs27, hg27⟩
    refine ⟨_, rfl, ?_⟩
    have hb27 : Below w.heap.size w25 w27 := (Below.refl _ _).grown hg27 hB25.size (fun k hk => by cases hk; exact hgq)
    refine s_v (y_build rfl u_api_Secrets i_api_Secrets pl_api_Secrets rfl) ?_
    refine s_alloc i_api_Secrets ?_
    intro g12 w12 hgB12 hx12 hk12
    have hne_g10_12 : g10 ≠ g12 := Nat.ne_of_lt (Nat.lt_of_lt_of_le (Blk.sn (Blk.sn (Blk.sn hk1_8 hsC23 hg23 (by decide)) hsC25 hg25 (by decide)) hsC27 hg27 (by decide)).lt hgB12)
    have hne_g4_12 : g4 ≠ g12 := Nat.ne_of_lt (Nat.lt_of_lt_of_le (Blk.sn (Blk.sn (Blk.sn ((((((hk4.ext hx8).ext (Ext.drew w8)).ext hx10).ext hx18).ext hx20).far hg1_8 hne_g4_10) hsC23 hg23 (by decide)) hsC25 hg25 (by decide)) hsC27 hg27 (by decide)).lt hgB12)
    have hne_g8_12 : g8 ≠ g12 := Nat.ne_of_lt (Nat.lt_of_lt_of_le (Blk.sn (Blk.sn (Blk.sn (((((hk8.ext (Ext.drew w8)).ext hx10).ext hx18).ext hx20).far hg1_8 hne_g8_10) hsC23 hg23 (by decide)) hsC25 hg25 (by decide)) hsC27 hg27 (by decide)).lt hgB12)
    have hgb12 := hgB12
    replace hgB12 := Nat.le_trans (Below.trans hB25 hb27).size hgB12
    have hB12 : Below w.heap.size w w12 := (Below.ext (Below.trans hB25 hb27) hx12 (Below.trans hB25 hb27).size)
    refine s_store rfl rfl hk12 i_api_Secrets rfl (Nat.le_of_ble_eq_true rfl) rfl ?_
    intro w3_8 hg3_8 hk3_8
    have hb3_8 : Below w.heap.size w12 w3_8 := (Below.refl _ _).grown hg3_8 hB12.size (fun k hk => by cases hk; exact hgB12)
    replace hk3_8 : Blk w3_8 g12 ty_api_Secrets [u64v (redN (wordS key (keysN r c p) 0)), u64v (redN (wordS key (keysN r c p) (0 + 1))), u64v (redN (wordS key (keysN r c p) (0 + 1 + 1)))] := hk3_8
    refine G_nil ?_
    refine C_seq ?_
    refine C_region ?_
    refine s_v (y_assign rfl) ?_
    refine G_nil ?_
    refine C_seq ?_
    refine C_seq ?_
    refine C_region ?_
    refine s_v (y_move rfl) ?_
    refine G_nil ?_
    refine C_block ?_
    refine C_loop (α := Nat × Value) (fun (k, u) => [(8, .pointer (some ⟨g8, 0, none⟩)), (11, .func (.func N_keys_Make_1) #[] #[.pointer (some ⟨g10, 0, none⟩)]), (12, .pointer (some ⟨g12, 0, none⟩)), (13, u), (29, iv (k : Int))]) (fun (k, u) w' => k ≤ 3 ∧ Kd.u64.Own F w.heap.size ty_uint64 w' u (keysD key (keysN r c p) k) ∧ Strm w' q20 ty_beacon_Stream key (keysN r c p) (UInt64.ofNat (3 + k)) ∧ Blk w' g10 ty_p_beacon_Stream [.pointer (some ⟨q20, 0, none⟩)] ∧ Blk w' g12 ty_api_Secrets [u64v (redN (wordS key (keysN r c p) 0)), u64v (redN (wordS key (keysN r c p) (0 + 1))), u64v (redN (wordS key (keysN r c p) (0 + 1 + 1)))] ∧ Blk w' g8 ty_api_Secrets [u64v 0, u64v 0, u64v 0] ∧ Below w.heap.size w w') (fun (k, u) => 3 - k) (0, .slice none 0 0) (.cons rfl (.cons rfl (.cons rfl (.cons rfl (.cons rfl (.nil)))))) ⟨Nat.zero_le _, Kd.Own.nil _ _ _ _ _, ((hs27.ext hx12).sb hk12 hg3_8 (by decide)), (((Blk.sn (Blk.sn (Blk.sn hk1_8 hsC23 hg23 (by decide)) hsC25 hg25 (by decide)) hsC27 hg27 (by decide)).ext hx12).far hg3_8 hne_g10_12), hk3_8, (((Blk.sn (Blk.sn (Blk.sn (((((hk8.ext (Ext.drew w8)).ext hx10).ext hx18).ext hx20).far hg1_8 hne_g8_10) hsC23 hg23 (by decide)) hsC25 hg25 (by decide)) hsC27 hg27 (by decide)).ext hx12).far hg3_8 hne_g8_12), (Below.trans hB12 hb3_8)⟩ ?_
    rintro ⟨k, u⟩ wL0 ⟨hk3, hu, hsL, hw10, hw12, hw8, hBL⟩
    refine C_seq ?_
    refine C_region ?_
    refine s_v (y_bin rfl rfl (fun _ => v_lss)) ?_
    refine G_nil ?_
    refine C_seq ?_
    refine C_if rfl (fun hc30 => ?_) (fun hc30 => ?_)
    · skip
      refine C_skip ?_
      refine C_seq ?_
      refine C_block ?_
      refine C_region ?_
      refine s_v (y_move rfl) ?_
      refine s_v (y_move rfl) ?_
      have hsC33 := hsL
      refine s_callv (f := N_keys_Make_1) rfl rfl cl_keys_Make_1 (keys_Make_1_ok hk (keysN_size r c p) (ofNat_small (by omega)) hw10 hsC33) ?_
      rintro _ w33 ⟨rfl, hs33, hg33⟩
      refine ⟨_, rfl, ?_⟩
      have hb33 : Below w.heap.size wL0 w33 := (Below.refl _ _).grown hg33 hBL.size (fun k hk => by cases hk; exact hgq)
      refine s_lit (K := Kd.u64) (F := F) (xs := [redN (wordS key (keysN r c p) (UInt64.ofNat (3 + k)))]) rfl rfl rfl rfl u_sl_uint64 i_uint64 rfl (by decide) (by decide) (by simp [Value.cells, Kd.u64, Kd.flat]) (Kd.Els.lits rfl) ?_
      intro v34 w34 h34 hx34
      have hB34 : Below w.heap.size w w34 := (Below.ext (Below.trans hBL hb33) hx34 (Below.trans hBL hb33).size)
      refine s_append (K := Kd.u64) rfl rfl ((Own_sn hu flat_u64 hsC33 hg33 (by decide)).ext hx34) ((h34.lower (Below.trans hBL hb33).size).sl (fun k hk => hF k hk)) u_sl_uint64 i_uint64 rfl flat_u64 (by simp [maxLen, keysD]; omega) (by simp [keysD]; omega) hB34.size ?_
      intro v35 w35 h35 hg35 hb35
      refine s_v (y_assign rfl) ?_
      refine G_nil ?_
      refine C_region ?_
      refine s_v (y_bin rfl rfl (fun _ => v_add (by omega))) ?_
      refine s_v (y_move rfl) ?_
      refine G_nil ?_
      refine ⟨(k + 1, v35), .cons rfl (.cons rfl (.cons rfl (.cons rfl (.cons rfl (.nil))))), ⟨by omega, ?_, ?_, (((Blk.sn hw10 hsC33 hg33 (by decide)).ext hx34).kd ((Own_sn hu flat_u64 hsC33 hg33 (by decide)).ext hx34) hg35 (by decide)), (((Blk.sn hw12 hsC33 hg33 (by decide)).ext hx34).kd ((Own_sn hu flat_u64 hsC33 hg33 (by decide)).ext hx34) hg35 (by decide)), (((Blk.sn hw8 hsC33 hg33 (by decide)).ext hx34).kd ((Own_sn hu flat_u64 hsC33 hg33 (by decide)).ext hx34) hg35 (by decide)), (Below.trans hB34 hb35)⟩, by simp only []; omega⟩
      · rw [keysD_succ]; exact h35
      · rw [show 3 + (k + 1) = (3 + k) + 1 from by omega, ofNat_succ64]; exact ((hs33.ext hx34).kd ((Own_sn hu flat_u64 hsC33 hg33 (by decide)).ext hx34) hg35 (by decide))
    · skip
      obtain rfl : k = 3 := by omega
      refine C_exit ?_
      refine C_seq ?_
      refine C_region ?_
      refine s_v (y_loadA rfl (fun _ e => e ▸ (hw12.at_ _)) u_api_Secrets i_api_Secrets rfl) ?_
      refine s_v (y_move rfl) ?_
      refine s_store rfl rfl hw8 i_api_Secrets rfl (Nat.le_of_ble_eq_true rfl) rfl ?_
      intro w9_2 hg9_2 hk9_2
      have hb9_2 : Below w.heap.size wL0 w9_2 := (Below.refl _ _).grown hg9_2 hBL.size (fun k hk => by cases hk; exact hgB8)
      replace hk9_2 : Blk w9_2 g8 ty_api_Secrets [u64v (redN (wordS key (keysN r c p) 0)), u64v (redN (wordS key (keysN r c p) (0 + 1))), u64v (redN (wordS key (keysN r c p) (0 + 1 + 1)))] := hk9_2
      refine s_v (y_assign rfl) ?_
      refine G_nil ?_
      refine C_ret ?_
      exact ⟨_, (.cell rfl (ldA (hk9_2.at_ _) u_api_Secrets i_api_Secrets rfl) (.tmp rfl .nil)), _, rfl, (hu.kb hw8 flat_u64 hg9_2 (by decide)), (Below.trans hBL hb9_2)⟩
end Go.Proofs.YtdaphjnenookiaaDoor
