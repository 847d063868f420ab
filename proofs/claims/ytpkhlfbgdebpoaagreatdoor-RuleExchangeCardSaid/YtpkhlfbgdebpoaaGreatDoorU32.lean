/- Which variables these functions name. -/
import Derived.Test.YtpkhlfbgdebpoaaGreatDoorU30
namespace Go.Proofs.YtpkhlfbgdebpoaaGreatDoor
open Go
theorem x3 : ((closC.flatMap fun g => ((Tryz.prog.funcs[g]?).bind (·.body)).elim [] Code.globalsNamed)) = [1, 7, 8, 5, 6, 0, 0, 0, 2, 3] := by kernel_rfl
theorem x4 : (closC.filterMap fun g => (Tryz.prog.funcs[g]?).bind fun fn => if fn.body.isNone then entryReads.lookup fn.name else none) = ["internal/bytealg.MaxLen"] := by kernel_rfl
end Go.Proofs.YtpkhlfbgdebpoaaGreatDoor
