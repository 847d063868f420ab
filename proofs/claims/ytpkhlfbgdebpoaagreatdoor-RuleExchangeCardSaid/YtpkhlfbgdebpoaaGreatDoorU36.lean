/- A closed fact of the row: the entry. -/
import Derived.Test.YtpkhlfbgdebpoaaGreatDoorRows
import Derived.JoinedOf
namespace Go.Proofs.YtpkhlfbgdebpoaaGreatDoor
open Go
theorem jf25 : (Tryz.prog.mayEnter) = true := by kernel_rfl
end Go.Proofs.YtpkhlfbgdebpoaaGreatDoor
