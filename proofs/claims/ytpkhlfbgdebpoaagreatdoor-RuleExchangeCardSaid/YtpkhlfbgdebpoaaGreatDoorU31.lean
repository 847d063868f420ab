/- What these functions are. -/
import Derived.Test.YtpkhlfbgdebpoaaGreatDoorU30
namespace Go.Proofs.YtpkhlfbgdebpoaaGreatDoor
open Go
theorem x1 : (closC.filterMap fun g => (Tryz.prog.funcs[g]?).bind fun fn => if fn.ours || fn.body.isNone || fn.name == "runtime.NumGoroutine" then some fn.name else none) = Rows.ruleExchangeRow.inPlace := by kernel_rfl
end Go.Proofs.YtpkhlfbgdebpoaaGreatDoor
namespace Go.Proofs.YtpkhlfbgdebpoaaGreatDoor
open Go
theorem x2 : (closC.any fun g => (Tryz.prog.funcs[g]?).any fun fn => match fn.body with | some c => c.unfollowed | none => entryCalls fn) = true := by kernel_rfl
end Go.Proofs.YtpkhlfbgdebpoaaGreatDoor
