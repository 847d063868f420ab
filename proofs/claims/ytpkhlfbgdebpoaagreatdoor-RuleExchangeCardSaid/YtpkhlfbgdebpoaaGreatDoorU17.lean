/- Runs of RuleExchange in the kernel: equal numbers. -/
import Derived.Test.YtpkhlfbgdebpoaaGreatDoorU12
namespace A3
open Go
theorem runY0 : apK AX 1000 (.func (.fn 3) [] []) [.sym 0 0, .sym 0 0, .any .i64, .any .i64] ctxN (fun o _ _ _ _ => trueOk o) .nil (.l .A .A .A .A .A .A .A .A) .nil = true := by kernel_rfl
theorem runY1 : apK AX 1000 (.func (.fn 3) [] []) [.sym 0 1, .sym 0 1, .any .i64, .any .i64] ctxN (fun o _ _ _ _ => trueOk o) .nil (.l .A .A .A .A .A .A .A .A) .nil = true := by kernel_rfl
theorem runY2 : apK AX 1000 (.func (.fn 3) [] []) [.sym 0 0, .sym 0 1, .sym 0 2, .sym 0 2] ctxN (fun o _ _ _ _ => trueOk o) .nil (.l .A .A .A .A .A .A .A .A) .nil = true := by kernel_rfl
theorem runY3 : apK AX 1000 (.func (.fn 3) [] []) [.sym 0 0, .sym 0 1, .sym 0 3, .sym 0 3] ctxN (fun o _ _ _ _ => trueOk o) .nil (.l .A .A .A .A .A .A .A .A) .nil = true := by kernel_rfl
theorem runY4 : apK AX 1000 (.func (.fn 3) [] []) [.sym 0 1, .sym 0 0, .sym 0 2, .sym 0 2] ctxN (fun o _ _ _ _ => trueOk o) .nil (.l .A .A .A .A .A .A .A .A) .nil = true := by kernel_rfl
theorem runY5 : apK AX 1000 (.func (.fn 3) [] []) [.sym 0 1, .sym 0 0, .sym 0 3, .sym 0 3] ctxN (fun o _ _ _ _ => trueOk o) .nil (.l .A .A .A .A .A .A .A .A) .nil = true := by kernel_rfl
end A3
