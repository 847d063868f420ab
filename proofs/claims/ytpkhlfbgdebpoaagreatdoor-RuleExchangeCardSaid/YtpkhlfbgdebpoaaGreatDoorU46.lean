/- No goroutine is started. -/
import Derived.Test.YtpkhlfbgdebpoaaGreatDoorU30
import GoSem.ClaimGoes
namespace Go.Proofs.YtpkhlfbgdebpoaaGreatDoor
open Go
theorem go0 : ((Tryz.prog.funcs.toList.drop 0).take 330).any Func.goes = false := by kernel_rfl
end Go.Proofs.YtpkhlfbgdebpoaaGreatDoor
namespace Go.Proofs.YtpkhlfbgdebpoaaGreatDoor
open Go
theorem go1 : (Tryz.prog.funcs.toList.drop 330).any Func.goes = false := by kernel_rfl
end Go.Proofs.YtpkhlfbgdebpoaaGreatDoor
namespace Go.Proofs.YtpkhlfbgdebpoaaGreatDoor
open Go
theorem any_of {P : Program} (n : Nat) (h0 : ((P.funcs.toList.drop 0).take n).any Func.goes = false) (h1 : (P.funcs.toList.drop n).any Func.goes = false) : P.funcs.any Func.goes = false := by
  rw [← Array.any_toList, ← List.take_append_drop n P.funcs.toList, List.any_append, h1]
  rw [List.drop_zero] at h0
  rw [h0]; rfl
theorem goes_of {P : Program} {f : FuncId} (ha : P.funcs.any Func.goes = false) : P.goes f = false := by
  unfold Program.goes
  rw [ha, Bool.and_false, Bool.or_false]
  rw [List.any_eq_false]
  intro g _
  cases h : P.funcs[g]? with
  | none => simp
  | some F =>
    simp only [Option.any_some]
    rw [← Array.any_toList, List.any_eq_false] at ha
    exact ha F (by rw [← Array.getElem?_toList] at h; exact List.mem_of_getElem? h)
theorem goesBy_of {P : Program} {c : OpenClaim} {f : FuncId} (hs : c.start = .entering) (h : P.funcNamed c.func = some f) (hg : P.goes f = false) : false = c.goesBy P := by
  unfold OpenClaim.goesBy Program.goesAt Program.goesFrom
  rw [h, hs]; simp [hg]
theorem goes3 : Tryz.prog.goes 3 = false := goes_of (any_of 330 go0 go1)
theorem goesC_of (h : Tryz.prog.funcNamed Rows.ruleExchangeRow.func = some 3) : false = Rows.ruleExchangeRow.goesBy Tryz.prog := goesBy_of rfl h goes3
end Go.Proofs.YtpkhlfbgdebpoaaGreatDoor
