/- The tie, second part. -/
import Derived.Test.YtpkhlfbgdebpoaaGreatDoorU41
import Derived.LaidByTextLater
import Derived.SevenTiedAt
namespace Go.Proofs.YtpkhlfbgdebpoaaGreatDoor
open Go
theorem tie7 (os : Os) (tape : Tape) : varsDone Tryz.prog 400 (varsId Tryz.prog) os tape = true := by kernel_rfl
end Go.Proofs.YtpkhlfbgdebpoaaGreatDoor
