/- Runs of the digest in the kernel. -/
import Derived.Test.YtpkhlfbgdebpoaaGreatDoorU12
namespace A3
open Go
theorem runS9 : apK AS 1000 (.func (.fn 276) [] []) [.str (rep265 9)] ctxN (fun o _ _ _ _ => sumOk o) .nil (.l .A .A .A .A .A .A .A .A) .nil = true := by kernel_rfl
theorem runS10 : apK AS 1000 (.func (.fn 276) [] []) [.str (rep265 10)] ctxN (fun o _ _ _ _ => sumOk o) .nil (.l .A .A .A .A .A .A .A .A) .nil = true := by kernel_rfl
theorem runS30 : apK AS 1000 (.func (.fn 276) [] []) [.str (rep265 30)] ctxN (fun o _ _ _ _ => sumOk o) .nil (.l .A .A .A .A .A .A .A .A) .nil = true := by kernel_rfl
theorem runS57 : apK AS 1000 (.func (.fn 276) [] []) [.str (rep265 57)] ctxN (fun o _ _ _ _ => sumOk o) .nil (.l .A .A .A .A .A .A .A .A) .nil = true := by kernel_rfl
end A3
