/- For every four ints, in every world in which the listed variables hold what their initialisers lay, understorylaw31.RuleExchange returns true and leaves its arguments as they were (the tied card RuleExchangeCardSaid). -/
import Derived.Test.YtpkhlfbgdebpoaaGreatDoorU40
import Derived.Test.YtpkhlfbgdebpoaaGreatDoorU45
import Derived.Test.YtpkhlfbgdebpoaaGreatDoorU46
import Derived.Test.YtpkhlfbgdebpoaaGreatDoorCards
namespace Go.Proofs.YtpkhlfbgdebpoaaGreatDoor
open Go
theorem row_tie : Rows.ruleExchangeRow.laidByTextAt .later Tryz.pinned [.data, .data, .data, .pinned, .data, .sentinel, .sentinel] true :=
  OpenClaim.laidByTextAt_pinned rfl rfl tieT rfl rfl rfl rfl (fun y hy _e => by
    simp only [Rows.ruleExchangeRow, List.zip_cons_cons, List.zip_nil_right, List.mem_cons, List.mem_nil_iff, or_false] at hy
    rcases hy with rfl | rfl | rfl | rfl | rfl | rfl | rfl
    · cases _e
    · cases _e
    · cases _e
    · exact ⟨pin_first, by kernel_rfl⟩
    · cases _e
    · cases _e
    · cases _e) fits7
theorem card_holds : Rows.RuleExchangeCardSaid :=
  Claim7.holds_tied_plain_at .later [] [.data, .data, .data, .pinned, .data, .sentinel, .sentinel] true Rows.ruleExchangeCard.stood.harness true
    row_holds (fun _ h => by cases h) (by kernel_rfl) (fun _ h => by cases h) row_tie rfl ⟨rfl, rfl⟩ (by kernel_rfl) rfl
    (fun f fn hf hfn => by
      obtain rfl : f = 3 := Option.some.inj (named3.symm.trans hf) |>.symm
      obtain rfl : fn = Tryz.f3 := (Option.some.inj (Tryz.func3.symm.trans hfn)).symm
      exact ⟨by kernel_rfl, fun j t ht => by
        rw [Tryz.params3] at ht
        have h3 : t = 3 := by
          rcases j with _ | _ | _ | _ | j
          · simpa using ht.symm
          · simpa using ht.symm
          · simpa using ht.symm
          · simpa using ht.symm
          · simp at ht
        subst h3
        exact (show Tryz.prog.wantsStandIn 3 = false by kernel_rfl)⟩)
    (goesC_of named3)
end Go.Proofs.YtpkhlfbgdebpoaaGreatDoor
