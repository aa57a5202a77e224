/- The law KeysTell returns true at whatever input, and its arguments read behind the call as they read before: the tied card. -/
import Derived.Test.YtdaphjnenookiaaDoorrowt
import Derived.Test.YtdaphjnenookiaaDoorCards
import Derived.Test.YtdaphjnenookiaaDoorTie
import Derived.SevenTiedAt
namespace Go.Proofs.YtdaphjnenookiaaDoor
open Go

theorem keysTell_card : Rows.KeysTellCardSaid :=
  Claim7.holds_tied_plain_at .later [] [.data, .data, .data] true (true, "c34a130c75fece729be2df481f62d898bc68873873fca73d1446f4fee0ccbf33") false
    keysTell_holds (fun _ h => by cases h) (by kernel_rfl) (fun _ h => by cases h) keysTell_row_tie rfl ⟨rfl, rfl⟩ (by kernel_rfl) rfl
    (fun f fn hf hfn => by
      obtain rfl : f = 3 := Option.some.inj ((show Tryd.prog.funcNamed "courierbag/courierbaglaw16.KeysTell" = some 3 by kernel_rfl).symm.trans hf) |>.symm
      obtain rfl : fn = Tryd.f3 := (Option.some.inj (Tryd.func3.symm.trans hfn)).symm
      exact ⟨by kernel_rfl, fun j t ht => by
        rw [Tryd.params3] at ht
        have h3 : t = 22 ∨ t = 23 ∨ t = 24 := by
          rcases j with _ | _ | _ | j
          · exact .inl (by simpa using ht.symm)
          · exact .inr (.inl (by simpa using ht.symm))
          · exact .inr (.inr (by simpa using ht.symm))
          · simp at ht
        rcases h3 with h | h | h <;> subst h
        · exact (show Tryd.prog.wantsStandIn 22 = false by kernel_rfl)
        · exact (show Tryd.prog.wantsStandIn 23 = false by kernel_rfl)
        · exact (show Tryd.prog.wantsStandIn 24 = false by kernel_rfl)⟩)
    (by kernel_rfl)
end Go.Proofs.YtdaphjnenookiaaDoor
