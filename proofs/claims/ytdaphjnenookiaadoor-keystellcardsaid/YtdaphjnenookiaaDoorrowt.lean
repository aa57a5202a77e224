/- The law KeysTell returns true at whatever input, and its arguments read behind the call as they read before: the row. -/
import Derived.Test.YtdaphjnenookiaaDoorRows
import Derived.Test.YtdaphjnenookiaaDoorlaw
import Derived.Test.YtdaphjnenookiaaDoorrdk
import Derived.ProofKit
import Derived.LaidMore
import Derived.Stop.Joined
namespace Go.Proofs.YtdaphjnenookiaaDoor
open Go.ChangeShapes Go.WideShapes Go.ChangeAt Go.RowKit

theorem own3 : ownKnob Tryd.prog.godebug = none := by kernel_rfl
theorem laidOut3 : laidOutB Tryd.prog = true := by kernel_rfl
/-- The door's own heap meets the condition. -/
theorem door_met3 (os : Os) (args : Array Value) : laidMetH Tryd.prog Rows.keysTellRow.laid ((World.doorLaid Tryd.prog 2000 os).forCall (fun _ _ => 0) ⟨#[], args, []⟩).memory :=
  laidMetH_of_parts3 (fuel := 8) (laidMet_of_run' 8 (by kernel_rfl) (by kernel_rfl)) (by kernel_rfl) (by kernel_rfl)

set_option maxRecDepth 100000 in
theorem tell_lifted (os : Os) (started : os.Started) (H : Type) (enc : TypeId × Value → H) :
    ReturnsInHanded {} Tryd.checked os 3 .any (fun w args => (Rows.keysTellSpec.pre enc Tryd.prog Tryd.f3 [] false w args ∧ laidMetH Tryd.prog Rows.keysTellRow.laid w) ∧ sizedMet enc Tryd.prog Tryd.f3 (OpenSpec.ofChange Rows.keysTellSpec) false w args)
      (Rows.keysTellSpec.post enc Tryd.prog Tryd.f3 false true false false) := by
  refine returnsInHanded_of_change_and (C := Tryd.checked) (X := fun w _ => laidMetH Tryd.prog Rows.keysTellRow.laid w) (fun _ _ _ hh h => h.of_heap hh) own3 started (by kernel_rfl) Tryd.func3
    (ChangeSpec.witness_shaped (enc := enc) (C := Tryd.checked) (os := os) (X := fun w _ => laidMetH Tryd.prog Rows.keysTellRow.laid w) false (World.doorLaid Tryd.prog 2000 os) #[.slice none 0 0, .slice none 0 0, .int .u64 0] 8 rfl (World.shaped_of_RefB (by kernel_rfl) (by kernel_rfl)) (by kernel_rfl) (by kernel_rfl) (by kernel_rfl) (door_met3 os _)) ?_
  intro W base args ds gs before hval0 hW _ _ hL _
  have hval : ∀ (j : Nat) t v, Tryd.f3.params[j]? = some t → args[j]? = some v → Value.okWide Tryd.prog W .any base t v := hval0
  have hW' := hW
  obtain ⟨p, q, hA0, hV, rfl, hfz, hnd⟩ := hW
  have hA : DataW.TrodAll enc Tryd.prog W 0 (fun _ => true) true Tryd.f3.params.toList args.toList ds p := hA0
  rw [Tryd.params3] at hA hval
  obtain ⟨v0, v1, v2, d0, d1, d2, p0, p1, p2, rfl, rfl, rfl, h0, h1, h2⟩ := trodAll_three hA
  obtain ⟨rfl, rfl⟩ := trodVars_none hV
  clear hA0 hval0
  obtain ⟨a0, len0, cap0, rfl⟩ := okWide_slice u_sl_api_Secrets (hval 0 22 v0 rfl rfl)
  obtain ⟨a1, len1, cap1, rfl⟩ := okWide_slice u_sl_sl_uint64 (hval 1 23 v1 rfl rfl)
  obtain ⟨b, rfl, rfl, rfl, wb⟩ := open_int u_uint64 (hval 2 24 v2 rfl rfl) h2
  have h0' := h0
  have h1' := h1
  obtain ⟨fuel, hf⟩ := h0
  obtain ⟨L, v, hv1, hv⟩ := rd_secs enc W 0 _ _ fuel _ _ hf
  injection hv1 with hv1
  subst hv1
  obtain ⟨fuel1, hf1⟩ := h1
  obtain ⟨ds, v, hv2, hd⟩ := rd_draws enc W 0 _ _ fuel1 _ _ hf1
  injection hv2 with hv2
  subst hv2
  have wb' : (decide (IntKind.u64.min ≤ b) && decide (b ≤ IntKind.u64.max)) = true := wb
  rw [Bool.and_eq_true] at wb'
  have wb1 : (0 : Int) ≤ b := of_decide_eq_true wb'.1
  have wb2 : b ≤ 18446744073709551615 := of_decide_eq_true wb'.2
  obtain ⟨bu, hbu⟩ : ∃ bu : UInt64, Value.int .u64 b = u64v bu := ⟨UInt64.ofNat b.toNat, by
    have h1 : (b.toNat : Int) = b := Int.toNat_of_nonneg (by omega)
    have h2 : b.toNat < 2 ^ 64 := by omega
    simp only [u64v, UInt64.toNat_ofNat', Nat.mod_eq_of_lt h2, h1]⟩
  rw [hbu] at hW' ⊢
  simp only [List.append_nil] at hW'
  have hlt : ∀ x ∈ p0 ++ p1, x.block < W.heap.size := fun x hx => hW'.lt x (by simpa using hx)
  refine (law16_KeysTell_ok bu hv hd).mono fun e W' ⟨he, hB⟩ => ?_
  subst he
  refine ⟨_, rfl, _, _, _, [], p0 ++ (p1 ++ ([] ++ [])), [], hW', ?_, ?_, ?_, Below.frame hB _, fun h => by cases h⟩
  · exact trodAll_mk1 (shut_bool Tryd.underlying4 true)
  · refine trodAll_mk3 (Below.trod laidOut3 (by kernel_rfl) (of_decide_eq_true (by kernel_rfl)) h0' hB (fun x hx => hlt x (List.mem_append.2 (.inl hx)))) (Below.trod laidOut3 (by kernel_rfl) (of_decide_eq_true (by kernel_rfl)) h1' hB (fun x hx => hlt x (List.mem_append.2 (.inr hx)))) ?_
    rw [← hbu]
    exact shut_int u_uint64 wb
  · rfl

theorem keysTell_holds : Rows.KeysTellSaid :=
  OpenClaim.holds_of_wide 3 Tryd.f3 rfl rfl rfl rfl rfl rfl rfl ⟨rfl, rfl, rfl, rfl, rfl⟩ rfl rfl rfl rfl rfl (by kernel_rfl) Tryd.func3 (by kernel_rfl)
    (of_decide_eq_true (by kernel_rfl)) (by unfold Func.isWrapper; first | (rw [if_pos (by decide +kernel)]; kernel_rfl) | (rw [if_neg (by decide +kernel)]; exact ⟨rfl, rfl⟩))
    (fun os started H enc _ => tell_lifted os started H enc)
end Go.Proofs.YtdaphjnenookiaaDoor
