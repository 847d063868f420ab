/- The closed facts of the row. -/
import Derived.Test.YtpkhlfbgdebpoaaGreatDoorU31
import Derived.Test.YtpkhlfbgdebpoaaGreatDoorU32
import Derived.Test.YtpkhlfbgdebpoaaGreatDoorU33
import Derived.Test.YtpkhlfbgdebpoaaGreatDoorU34
import Derived.Test.YtpkhlfbgdebpoaaGreatDoorU35
import Derived.Test.YtpkhlfbgdebpoaaGreatDoorU36
import Derived.JoinedOf
namespace Go.Proofs.YtpkhlfbgdebpoaaGreatDoor
open Go
theorem all_cut {p : Nat → Bool} (s k m : Nat) (h : (List.range' s k).all p = true) (h' : (List.range' (s + k) m).all p = true) : (List.range' s (k + m)).all p = true := by
  rw [← List.range'_append_1, List.all_append, h, h']; rfl
theorem an {a b : Bool} (h : a = true) (h' : b = true) : (a && b) = true := by rw [h, h']; rfl
theorem jf1 : (laidOutB Tryz.prog) = true := by
  have h : (List.range' 0 702).all (rowFine Tryz.prog) = true := all_cut 0 120 582 fine0 (all_cut 120 120 462 fine1 (all_cut 240 120 342 fine2 (all_cut 360 120 222 fine3 (all_cut 480 120 102 fine4 fine5))))
  have e : (List.range Tryz.prog.types.size).all (rowFine Tryz.prog) = true := by rw [typesN, List.range_eq_range']; exact h
  exact an (an e laidG) laidF
theorem unf : Tryz.prog.unfollowed 3 = true := by unfold Program.unfollowed; rw [clos_eq]; exact x2
theorem jf9 : (Rows.ruleExchangeRow.inPlace == Tryz.prog.inPlace 3) = true := by
  unfold Program.inPlace; rw [clos_eq, x1]; exact beq_self_eq_true _
theorem jf10 : (Rows.ruleExchangeRow.unfollowed == Tryz.prog.unfollowed 3) = true := by rw [unf]; rfl
theorem jf11 : (Rows.ruleExchangeRow.recurses == Tryz.prog.recurses 3) = true := by
  have h : Tryz.prog.recurses 3 = true := by unfold Program.recurses; rw [unf, Bool.true_or]
  rw [h]; rfl
theorem jf12 : (Rows.ruleExchangeRow.named == Tryz.prog.varsNamed 3) = true := by
  unfold Program.varsNamed; rw [clos_eq, x3, x4]; kernel_rfl
theorem jf0 : (Rows.ruleExchangeRow.wf (OpenSpec.ofChange Rows.ruleExchangeSpec)) = true := by kernel_rfl
theorem jf3 : (Tryz.f3.params.all (Tryz.prog.readableRec ·)) = true := by kernel_rfl
theorem jf4 : (namedTie Tryz.prog Rows.ruleExchangeRow.named Rows.ruleExchangeSpec.vars) = true := by kernel_rfl
theorem jf5 : ((Rows.ruleExchangeRow.stops == [])) = true := by kernel_rfl
theorem jf6 : ((Tryz.prog.stops == [])) = true := by kernel_rfl
theorem jf7 : ((Rows.ruleExchangeRow.knobs == [])) = true := by kernel_rfl
theorem jf8 : ((Tryz.prog.stopKnobs == [])) = true := by kernel_rfl
theorem jf13 : ((Rows.ruleExchangeRow.maps == (Tryz.f3.params.toList ++ Rows.ruleExchangeSpec.plain.varTypes Tryz.prog).any (Tryz.prog.mapsRec ·))) = true := by kernel_rfl
theorem jf14 : ((Rows.ruleExchangeRow.ifaces == (Tryz.f3.params.toList ++ Rows.ruleExchangeSpec.plain.varTypes Tryz.prog).any (Tryz.prog.ifacesRec ·))) = true := by kernel_rfl
theorem jf15 : ((Rows.ruleExchangeRow.mapsOut == Tryz.prog.mapsAmong Tryz.f3.resultTypes.toList)) = true := by kernel_rfl
theorem jf16 : ((Rows.ruleExchangeRow.loops == (Tryz.f3.params.toList ++ Rows.ruleExchangeSpec.plain.varTypes Tryz.prog).any (Tryz.prog.loopsFrom ·))) = true := by kernel_rfl
theorem jf17 : ((Rows.ruleExchangeRow.wideKeys == (Tryz.f3.params.toList ++ Rows.ruleExchangeSpec.plain.varTypes Tryz.prog ++ Tryz.f3.resultTypes.toList).any (Tryz.prog.wideKeysFrom ·))) = true := by kernel_rfl
theorem jf18 : (Rows.ruleExchangeSpec.vars.all (Tryz.prog.varReadable ·)) = true := by kernel_rfl
theorem jf19 : (Tryz.f3.resultTypes.all (fun t => Tryz.prog.readableRec t && decide (t < Tryz.prog.types.size))) = true := by kernel_rfl
theorem jf20 : ((Rows.ruleExchangeRow.ifacesOut == Tryz.f3.resultTypes.toList.any (Tryz.prog.ifacesRec ·))) = true := by kernel_rfl
theorem jf21 : ((Rows.ruleExchangeRow.loopsOut == Tryz.f3.resultTypes.toList.any (Tryz.prog.loopsFrom ·))) = true := by kernel_rfl
theorem jf22 : ((Rows.ruleExchangeRow.plainKeys == Tryz.prog.plainKeys)) = true := by kernel_rfl
theorem jf23 : (Rows.ruleExchangeRow.shortTexts.isNone) = true := by kernel_rfl
theorem jf26 : ((Rows.ruleExchangeRow.lifted == Tryz.prog.liftsFinal)) = true := by kernel_rfl
theorem jf27 : ((Tryz.prog.make == some Rows.ruleExchangeRow.make)) = true := by kernel_rfl
theorem jf28 : ((Rows.ruleExchangeRow.kinds == (if Rows.ruleExchangeRow.domain.isEmpty then [] else Tryz.f3.params.toList.map fun t => match Tryz.prog.underlying t with | some (.int k) => some k | _ => none))) = true := by kernel_rfl
theorem jf29 : ((Rows.ruleExchangeRow.pinned == Rows.ruleExchangeRow.pinnedBy)) = true := by kernel_rfl
theorem jf30 : ((Rows.ruleExchangeRow.veiled == (Tryz.f3.params.toList ++ Rows.ruleExchangeSpec.plain.varTypes Tryz.prog ++ Tryz.f3.resultTypes.toList).any (Tryz.prog.veiledRec ·))) = true := by kernel_rfl
theorem jf31 : (Rows.ruleExchangeRow.veiledFits Tryz.prog Tryz.f3.params.toList (Tryz.f3.params.toList ++ Rows.ruleExchangeSpec.plain.varTypes Tryz.prog ++ Tryz.f3.resultTypes.toList)) = true := by kernel_rfl
set_option maxRecDepth 100000 in
theorem joined : joinedFacts Tryz.prog 3 Tryz.f3 Rows.ruleExchangeSpec Rows.ruleExchangeRow = true := by
  unfold joinedFacts
  exact an (an (an (an (an (an (an (an (an (an (an (an (an (an (an (an (an (an (an (an (an (an (an (an (an (an (an (an (an (an (an jf0 jf1) jf2) jf3) jf4) jf5) jf6) jf7) jf8) jf9) jf10) jf11) jf12) jf13) jf14) jf15) jf16) jf17) jf18) jf19) jf20) jf21) jf22) jf23) jf24) jf25) jf26) jf27) jf28) jf29) jf30) jf31
end Go.Proofs.YtpkhlfbgdebpoaaGreatDoor
