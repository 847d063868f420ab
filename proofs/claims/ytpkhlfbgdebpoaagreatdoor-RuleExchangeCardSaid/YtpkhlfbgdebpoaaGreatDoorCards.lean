/-
  DERIVED. GIVEN WITH THE SEED: THE CARDS: each row of YtpkhlfbgdebpoaaGreatDoorRows.lean that lists a variable, with what it lists TIED to the program's text (the seventh form; the later family's looks); each row that meets fmt, with fmt's text TOLD by the authors' own Lean function (tested against real Go, not proved from fmt's source: count such statements apart). THE CARD IS WHAT COUNTS. Prove the row's statement (the work); the ties are given (YtpkhlfbgdebpoaaGreatDoorTie.lean); close each card by the builder's one call (the guide's Derived/Test/ToyasCard.lean, 'card_holds'). Laid BY PROGRAM, IN A SANDBOX (cutbox-door.mjs). By AI agents, Wed Nov 11 2026. No macro, syntax, notation, axiom, sorry.
-/
import Derived.Test.YtpkhlfbgdebpoaaGreatDoorRows
import GoSem.ClaimSeven
namespace Go.Proofs.YtpkhlfbgdebpoaaGreatDoor
namespace Rows

/-- THE TIED CARD OF 'understorylaw31.RuleExchange'. -/
def ruleExchangeCard : Claim7 := { stood := { row := ruleExchangeRow, standIns := [], harness := (true, "dde6849c2ac263e2df4835c93d8a631cf1cd90f7c2d91e7a6499a0ddb1ded203"), looks := true }, kinds := [], alts := [], laidByText := true, laidKinds := [.data, .data, .data, .pinned, .data, .sentinel, .sentinel], laidTests := true, laidLooks := .later }
def RuleExchangeCardSaid : Prop := Claim7.holds Tryz.pinned (.plain (OpenSpec.ofChange ruleExchangeSpec)) ruleExchangeCard

/-- THE SECOND FORM's CARD OF 'understorylaw31.RuleExchange'. -/
def ruleExchangeUptoCard : Claim7 := { stood := { row := ruleExchangeUptoRow, standIns := [], harness := (true, "dde6849c2ac263e2df4835c93d8a631cf1cd90f7c2d91e7a6499a0ddb1ded203"), looks := true }, kinds := [], alts := [], laidByText := true, laidKinds := [.data, .data, .data, .pinned, .data, .sentinel, .sentinel], laidTests := true, laidLooks := .later }
def RuleExchangeUptoCardSaid : Prop := Claim7.holds Tryz.pinned (.plain (OpenSpec.upto ruleExchangeSpec)) ruleExchangeUptoCard
end Rows
end Go.Proofs.YtpkhlfbgdebpoaaGreatDoor
