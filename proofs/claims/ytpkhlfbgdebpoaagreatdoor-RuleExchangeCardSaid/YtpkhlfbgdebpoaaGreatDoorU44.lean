/- The tie, fourth part. -/
import Derived.Test.YtpkhlfbgdebpoaaGreatDoorU41
import Derived.LaidByTextLater
import Derived.SevenTiedAt
namespace Go.Proofs.YtpkhlfbgdebpoaaGreatDoor
open Go
theorem tie9 (os : Os) (tape : Tape) : (DataW.laidRun Tryz.prog (varsWorld Tryz.prog 400 (varsId Tryz.prog) os tape).memory 8 (laidT.map (·.1))).map (fun x => decide x.2.Nodup && laidRowsB Tryz.prog (varsWorld Tryz.prog 400 (varsId Tryz.prog) os tape).memory x.2) = some true := by kernel_rfl
end Go.Proofs.YtpkhlfbgdebpoaaGreatDoor
