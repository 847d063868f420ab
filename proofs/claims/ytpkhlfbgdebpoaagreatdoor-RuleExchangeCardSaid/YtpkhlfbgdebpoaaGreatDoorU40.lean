/- The row holds. -/
import Derived.Test.YtpkhlfbgdebpoaaGreatDoorU38
import Derived.Test.YtpkhlfbgdebpoaaGreatDoorU39
import Derived.Test.YtpkhlfbgdebpoaaGreatDoorU37
import Derived.Test.YtpkhlfbgdebpoaaGreatDoorRows
namespace Go.Proofs.YtpkhlfbgdebpoaaGreatDoor
open Go Go.ChangeShapes Go.WideShapes Go.ChangeAt Go.RowKit A3
set_option maxRecDepth 100000 in
theorem lifted (os : Os) (started : os.Started) (H : Type) (enc : TypeId × Value → H) :
    ReturnsInHanded {} Tryz.checked os 3 .any (fun w args => (Rows.ruleExchangeSpec.pre enc Tryz.prog Tryz.f3 [] false w args ∧ laidMet Tryz.prog Rows.ruleExchangeRow.laid w) ∧ sizedMet enc Tryz.prog Tryz.f3 (OpenSpec.ofChange Rows.ruleExchangeSpec) false w args)
      (Rows.ruleExchangeSpec.post enc Tryz.prog Tryz.f3 false true false false) := by
  refine returnsInHanded_of_change_and (C := Tryz.checked) (X := fun w _ => laidMet Tryz.prog Rows.ruleExchangeRow.laid w) (fun _ _ _ hh h => h.of_heap hh) own started (by kernel_rfl) Tryz.func3
    (ChangeSpec.witness_at (enc := enc) (C := Tryz.checked) (os := os) (X := fun w _ => laidMet Tryz.prog Rows.ruleExchangeRow.laid w) false (laidWorld os) args0 8 rfl (wit_vars os) (wit_heap os) (wit_ok os) (wit_pre os H enc) (wit_sized os H enc) (laid_met os _)) ?_
  intro W base args ds gs before hval0 hW _ _ hL _
  exact row_calls enc W base args ds gs before hval0 hW hL
theorem named3 : Tryz.prog.funcNamed Rows.ruleExchangeRow.func = some 3 := by kernel_rfl
theorem inst3 : Tryz.f3.isInstance Tryz.prog Rows.ruleExchangeRow.origin Rows.ruleExchangeRow.targs := of_decide_eq_true (by kernel_rfl)
theorem row_holds : Rows.RuleExchangeSaid :=
  OpenClaim.holds_of_wide 3 Tryz.f3 rfl rfl rfl rfl rfl rfl rfl ⟨rfl, rfl, rfl, rfl, rfl⟩ rfl rfl rfl rfl rfl named3 Tryz.func3 joined
    inst3 (by unfold Func.isWrapper; first | (rw [if_pos (by decide +kernel)]; kernel_rfl) | (rw [if_neg (by decide +kernel)]; exact ⟨rfl, rfl⟩))
    (fun os started H enc _ => lifted os started H enc)
end Go.Proofs.YtpkhlfbgdebpoaaGreatDoor
