/- The tie, third part. -/
import Derived.Test.YtpkhlfbgdebpoaaGreatDoorU41
import Derived.LaidByTextLater
import Derived.SevenTiedAt
namespace Go.Proofs.YtpkhlfbgdebpoaaGreatDoor
open Go
theorem tie8 (os : Os) (tape : Tape) : (DataW.laidRun Tryz.prog (varsWorld Tryz.prog 400 (varsId Tryz.prog) os tape).memory 8 (laidT.map (·.1))).map (·.1) = some laidT := by kernel_rfl
end Go.Proofs.YtpkhlfbgdebpoaaGreatDoor
