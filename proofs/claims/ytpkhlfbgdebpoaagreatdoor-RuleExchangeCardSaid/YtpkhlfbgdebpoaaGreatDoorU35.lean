/- A closed fact of the row: stops. -/
import Derived.Test.YtpkhlfbgdebpoaaGreatDoorRows
import Derived.JoinedOf
namespace Go.Proofs.YtpkhlfbgdebpoaaGreatDoor
open Go
theorem jf24 : (Tryz.prog.stopsHeard) = true := by kernel_rfl
end Go.Proofs.YtpkhlfbgdebpoaaGreatDoor
