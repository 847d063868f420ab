/- A run of the constants in the kernel. -/
import Derived.Test.YtpkhlfbgdebpoaaGreatDoorU12
namespace A3
open Go
theorem runC : apK AC 1000 (.func (.fn 430) [] []) [] ctxN (fun o _ _ _ _ => constOk o) .nil (.l .A .A .A .A .A .A .A .A) .nil = true := by kernel_rfl
end A3
