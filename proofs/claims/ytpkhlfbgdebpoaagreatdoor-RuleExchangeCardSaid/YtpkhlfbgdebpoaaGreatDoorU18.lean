/- A run of the examples in the kernel. -/
import Derived.Test.YtpkhlfbgdebpoaaGreatDoorU12
namespace A3
open Go
theorem runN : apK AN 1000 (.func (.fn 4) [] []) [] ctxN (fun o _ _ _ _ => trueOk o) .nil (.l .A .A .A .A .A .A .A .A) .nil = true := by kernel_rfl
end A3
