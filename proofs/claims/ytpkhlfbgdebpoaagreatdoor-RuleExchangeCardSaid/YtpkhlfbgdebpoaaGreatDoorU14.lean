/- A run of RuleExchange in the kernel: second order of the numbers. -/
import Derived.Test.YtpkhlfbgdebpoaaGreatDoorU12
namespace A3
open Go
theorem runX1 : apK AX 1000 (.func (.fn 3) [] []) [.sym 0 0, .sym 0 1, .sym 0 3, .sym 0 2] ctxN (fun o _ _ _ _ => trueOk o) .nil (.l .A .A .A .A .A .A .A .A) .nil = true := by kernel_rfl
end A3
