/- The types are laid out. -/
import Derived.Test.YtpkhlfbgdebpoaaGreatDoorU30
namespace Go.Proofs.YtpkhlfbgdebpoaaGreatDoor
open Go
theorem fine0 : ((List.range' 0 120).all (rowFine Tryz.prog)) = true := by kernel_rfl
end Go.Proofs.YtpkhlfbgdebpoaaGreatDoor
namespace Go.Proofs.YtpkhlfbgdebpoaaGreatDoor
open Go
theorem fine1 : ((List.range' 120 120).all (rowFine Tryz.prog)) = true := by kernel_rfl
end Go.Proofs.YtpkhlfbgdebpoaaGreatDoor
namespace Go.Proofs.YtpkhlfbgdebpoaaGreatDoor
open Go
theorem fine2 : ((List.range' 240 120).all (rowFine Tryz.prog)) = true := by kernel_rfl
end Go.Proofs.YtpkhlfbgdebpoaaGreatDoor
namespace Go.Proofs.YtpkhlfbgdebpoaaGreatDoor
open Go
theorem fine3 : ((List.range' 360 120).all (rowFine Tryz.prog)) = true := by kernel_rfl
end Go.Proofs.YtpkhlfbgdebpoaaGreatDoor
namespace Go.Proofs.YtpkhlfbgdebpoaaGreatDoor
open Go
theorem fine4 : ((List.range' 480 120).all (rowFine Tryz.prog)) = true := by kernel_rfl
end Go.Proofs.YtpkhlfbgdebpoaaGreatDoor
namespace Go.Proofs.YtpkhlfbgdebpoaaGreatDoor
open Go
theorem fine5 : ((List.range' 600 102).all (rowFine Tryz.prog)) = true := by kernel_rfl
end Go.Proofs.YtpkhlfbgdebpoaaGreatDoor
namespace Go.Proofs.YtpkhlfbgdebpoaaGreatDoor
open Go
theorem laidG : (Tryz.prog.globals.all (fun g => decide (g.type < Tryz.prog.types.size))) = true := by kernel_rfl
theorem laidF : (Tryz.prog.funcs.all (fun f => f.params.all fun t => decide (t < Tryz.prog.types.size))) = true := by kernel_rfl
theorem typesN : Tryz.prog.types.size = 702 := by kernel_rfl
end Go.Proofs.YtpkhlfbgdebpoaaGreatDoor
