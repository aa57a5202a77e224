/- The law KeysCheck returns true at whatever input, and its argument reads behind the call as it read before: the tied card. -/
import Derived.Test.YtdaphjnenookiaaDoorrowc
import Derived.Test.YtdaphjnenookiaaDoorCards
import Derived.Test.YtdaphjnenookiaaDoorTie
import Derived.SevenTiedAt
namespace Go.Proofs.YtdaphjnenookiaaDoor
open Go

theorem keysCheck_card : Rows.KeysCheckCardSaid :=
  Claim7.holds_tied_plain_at .later [] [.data, .data, .data] true (true, "c34a130c75fece729be2df481f62d898bc68873873fca73d1446f4fee0ccbf33") false
    keysCheck_holds (fun _ h => by cases h) (by kernel_rfl) (fun _ h => by cases h) keysCheck_row_tie rfl ⟨rfl, rfl⟩ (by kernel_rfl) rfl
    (fun f fn hf hfn => by
      obtain rfl : f = 4 := Option.some.inj ((show Tryd.prog.funcNamed "courierbag/courierbaglaw16.KeysCheck" = some 4 by kernel_rfl).symm.trans hf) |>.symm
      obtain rfl : fn = Tryd.f4 := (Option.some.inj (Tryd.func4.symm.trans hfn)).symm
      exact ⟨by kernel_rfl, fun j t ht => by
        rw [Tryd.params4] at ht
        have h3 : t = 26 := by
          rcases j with _ | j
          · simpa using ht.symm
          · simp at ht
        subst h3
        exact (show Tryd.prog.wantsStandIn 26 = false by kernel_rfl)⟩)
    (by kernel_rfl)
end Go.Proofs.YtdaphjnenookiaaDoor
