/- The tie. -/
import Derived.Test.YtpkhlfbgdebpoaaGreatDoorU42
import Derived.Test.YtpkhlfbgdebpoaaGreatDoorU43
import Derived.Test.YtpkhlfbgdebpoaaGreatDoorU44
namespace Go.Proofs.YtpkhlfbgdebpoaaGreatDoor
open Go
theorem pin_first : Tryz.prog.pinnedFits "unicode/utf8.first" = true := by kernel_rfl
theorem noOwn : Tryz.prog.headLifts.contains "ownunsafe" = false := by kernel_rfl
theorem fits7 : Tryz.prog.listedFits Rows.ruleExchangeRow.laid = true := by
  unfold Program.listedFits
  rw [noOwn]
  kernel_rfl
theorem tieT : Tryz.prog.laidByTextLater laidT [.data, .data, .data, .data, .sentinel, .sentinel] true :=
  Program.laidByTextLater_by_run 400 8 tie1 tie2 tie3 tie4 tie5 tie6 tie7 tie8 tie9
end Go.Proofs.YtpkhlfbgdebpoaaGreatDoor
