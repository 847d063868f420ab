/- A closed fact of the row: maps. -/
import Derived.Test.YtpkhlfbgdebpoaaGreatDoorRows
import Derived.JoinedOf
namespace Go.Proofs.YtpkhlfbgdebpoaaGreatDoor
open Go
theorem jf2 : (mapsRowed Tryz.prog) = true := by kernel_rfl
end Go.Proofs.YtpkhlfbgdebpoaaGreatDoor
