/- The law KeysInner returns true at whatever input, and its argument reads behind the call as it read before: the tied card. -/
import Derived.Test.YtdaphjnenookiaaDoorrowi
import Derived.Test.YtdaphjnenookiaaDoorCards
import Derived.Test.YtdaphjnenookiaaDoorTie
import Derived.SevenTiedAt
namespace Go.Proofs.YtdaphjnenookiaaDoor
open Go

theorem keysInner_card : Rows.KeysInnerCardSaid :=
  Claim7.holds_tied_plain_at .later [] [.data, .data, .data] true (true, "c34a130c75fece729be2df481f62d898bc68873873fca73d1446f4fee0ccbf33") false
    keysInner_holds (fun _ h => by cases h) (by kernel_rfl) (fun _ h => by cases h) keysInner_row_tie rfl ⟨rfl, rfl⟩ (by kernel_rfl) rfl
    (fun f fn hf hfn => by
      obtain rfl : f = 5 := Option.some.inj ((show Tryd.prog.funcNamed "courierbag/courierbaglaw16.KeysInner" = some 5 by kernel_rfl).symm.trans hf) |>.symm
      obtain rfl : fn = Tryd.f5 := (Option.some.inj (Tryd.func5.symm.trans hfn)).symm
      exact ⟨by kernel_rfl, fun j t ht => by
        rw [Tryd.params5] at ht
        have h3 : t = 22 := by
          rcases j with _ | j
          · simpa using ht.symm
          · simp at ht
        subst h3
        exact (show Tryd.prog.wantsStandIn 22 = false by kernel_rfl)⟩)
    (by kernel_rfl)
end Go.Proofs.YtdaphjnenookiaaDoor
