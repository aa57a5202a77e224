/- That what can be read at the slices of keys is a list of numbers in memory. -/
import Derived.Test.YtdaphjnenookiaaDoorProg
import Derived.Test.YtdaphjnenookiaaDoorNm
import Derived.Test.YtdaphjnenookiaaDoorwords
import Derived.Test.YtdaphjnenookiaaDoorsha
import Derived.Test.YtdaphjnenookiaaDoorrsha
import Derived.Test.YtdaphjnenookiaaDoorscal
import Derived.Test.YtdaphjnenookiaaDoorgrp
import Derived.Test.YtdaphjnenookiaaDoorprf
import Derived.Test.YtdaphjnenookiaaDoorkys
namespace Go.Proofs.YtdaphjnenookiaaDoor
open Go Go.RowKit Go.Proofs
set_option linter.unusedVariables false
set_option linter.unusedSimpArgs false
set_option maxRecDepth 4000


theorem c_u64 : Pr.cellsOf ty_uint64 = 1 := by kernel_rfl
theorem c_prf : Pr.cellsOf ty_api_Proof = 2 := by kernel_rfl
theorem c_sec : Pr.cellsOf ty_api_Secrets = 3 := by kernel_rfl
theorem c_pub : Pr.cellsOf ty_api_Public = 10 := by kernel_rfl
theorem c_us : Pr.cellsOf ty_sl_uint64 = 1 := by kernel_rfl
theorem rd_prf : Rd Pr ty_api_Proof (Kd.farr 2 (by decide) u64v fun _ => rfl) := by
  intro H enc w base spare held fuel cs x h
  obtain ⟨xs, n, _, _, hl, hlen, hf⟩ := DataW.trod_struct u_api_Proof h
  rw [c_prf] at hl
  match cs, hl with
  | [c0, c1], _ =>
    obtain ⟨a, ha⟩ := (seg hf hlen 0 [c0] rfl rfl c_u64 rfl).elim fun _ k => rd_u64 u_uint64 enc w base spare held n _ _ k
    obtain ⟨b, hb⟩ := (seg hf hlen 1 [c1] rfl rfl c_u64 rfl).elim fun _ k => rd_u64 u_uint64 enc w base spare held n _ _ k
    injection ha with ha
    injection hb with hb
    exact ⟨[a, b], rfl, by rw [ha, hb]; rfl⟩
theorem rd_sec : Rd Pr ty_api_Secrets KSec := by
  intro H enc w base spare held fuel cs x h
  obtain ⟨xs, n, _, _, hl, hlen, hf⟩ := DataW.trod_struct u_api_Secrets h
  rw [c_sec] at hl
  match cs, hl with
  | [c0, c1, c2], _ =>
    obtain ⟨a, ha⟩ := (seg hf hlen 0 [c0] rfl rfl c_u64 rfl).elim fun _ k => rd_u64 u_uint64 enc w base spare held n _ _ k
    obtain ⟨b, hb⟩ := (seg hf hlen 1 [c1] rfl rfl c_u64 rfl).elim fun _ k => rd_u64 u_uint64 enc w base spare held n _ _ k
    obtain ⟨c, hc⟩ := (seg hf hlen 2 [c2] rfl rfl c_u64 rfl).elim fun _ k => rd_u64 u_uint64 enc w base spare held n _ _ k
    injection ha with ha
    injection hb with hb
    injection hc with hc
    exact ⟨[a, b, c], rfl, by rw [ha, hb, hc]; rfl⟩
theorem rd_pub : Rd Pr ty_api_Public KPub := by
  intro H enc w base spare held fuel cs x h
  obtain ⟨xs, n, _, _, hl, hlen, hf⟩ := DataW.trod_struct u_api_Public h
  rw [c_pub] at hl
  match cs, hl with
  | [c0, c1, c2, c3, c4, c5, c6, c7, c8, c9], _ =>
    obtain ⟨a0, h0⟩ := (seg hf hlen 0 [c0] rfl rfl c_u64 rfl).elim fun _ k => rd_u64 u_uint64 enc w base spare held n _ _ k
    obtain ⟨a1, h1⟩ := (seg hf hlen 1 [c1] rfl rfl c_u64 rfl).elim fun _ k => rd_u64 u_uint64 enc w base spare held n _ _ k
    obtain ⟨a2, h2⟩ := (seg hf hlen 2 [c2] rfl rfl c_u64 rfl).elim fun _ k => rd_u64 u_uint64 enc w base spare held n _ _ k
    obtain ⟨a3, h3⟩ := (seg hf hlen 3 [c3] rfl rfl c_u64 rfl).elim fun _ k => rd_u64 u_uint64 enc w base spare held n _ _ k
    obtain ⟨p4, l4, h4⟩ := (seg hf hlen 4 [c4, c5] rfl rfl c_prf rfl).elim fun _ k => rd_prf enc w base spare held n _ _ k
    obtain ⟨p6, l6, h6⟩ := (seg hf hlen 5 [c6, c7] rfl rfl c_prf rfl).elim fun _ k => rd_prf enc w base spare held n _ _ k
    obtain ⟨p8, l8, h8⟩ := (seg hf hlen 6 [c8, c9] rfl rfl c_prf rfl).elim fun _ k => rd_prf enc w base spare held n _ _ k
    injection h0 with h0
    injection h1 with h1
    injection h2 with h2
    injection h3 with h3
    match p4, l4 with
    | [a4, a5], _ => match p6, l6 with
      | [a6, a7], _ => match p8, l8 with
        | [a8, a9], _ =>
          injection h4 with h4 h5
          injection h5 with h5
          injection h6 with h6 h7
          injection h7 with h7
          injection h8 with h8 h9
          injection h9 with h9
          exact ⟨[a0, a1, a2, a3, a4, a5, a6, a7, a8, a9], rfl, by rw [h0, h1, h2, h3, h4, h5, h6, h7, h8, h9]; rfl⟩
theorem rd_secs : Rd Pr ty_sl_api_Secrets (Kd.slice KSec) := rd_slice u_sl_api_Secrets c_sec rd_sec
theorem rd_pubs : Rd Pr ty_sl_api_Public (Kd.slice KPub) := rd_slice u_sl_api_Public c_pub rd_pub
theorem rd_draws : Rd Pr ty_sl_sl_uint64 (Kd.slice (Kd.slice Kd.u64)) := rd_slice u_sl_sl_uint64 c_us (rd_slice u_sl_uint64 c_u64 (rd_u64 u_uint64))
end Go.Proofs.YtdaphjnenookiaaDoor
