/- One start that fits. -/
import Derived.Test.YtpkhlfbgdebpoaaGreatDoorRows
import Derived.Test.YtpkhlfbgdebpoaaGreatDoorU29
import Derived.ProofKit
import Derived.Carry
import Derived.Lib.LaidIn
import Derived.Lib.LaidTab
namespace Go.Proofs.YtpkhlfbgdebpoaaGreatDoor
open Go
def litV : DataW Unit → List Value
  | .lit (.int k n) => [.int k n]
  | _ => []
def flat1 : DataW Unit → List Value
  | .agg l => l.flatMap litV
  | d => litV d
def flat2 : DataW Unit → List Value
  | .agg l => l.flatMap flat1
  | _ => []
abbrev synS : ByteArray := { data := #[105, 110, 118, 97, 108, 105, 100, 32, 115, 121, 110, 116, 97, 120] }
abbrev rngS : ByteArray := { data := #[118, 97, 108, 117, 101, 32, 111, 117, 116, 32, 111, 102, 32, 114, 97, 110, 103, 101] }
def putRow (h : Array Obj) (g : Nat) (cs : Array Value) : Array Obj := h.modify g fun
  | .cells _ t frozen => .cells cs t frozen
  | o => o
noncomputable def low : Nat := (World.settled Tryz.prog default).heap.size
noncomputable def laidWorld (os : Os) : World :=
  let w0 := World.holding Tryz.prog os ⟨#[.cells #[.string synS] 653, .cells #[.string rngS] 653], #[], []⟩
  let h1 := putRow w0.heap 1 (flat2 Rows.laid_internal_strconv_uint64pow10).toArray
  let h2 := putRow h1 2 #[.iface 651 (.pointer (some ⟨low, 0, none⟩))]
  let h3 := putRow h2 3 #[.iface 651 (.pointer (some ⟨low + 1, 0, none⟩))]
  let h4 := putRow h3 5 (flat2 Rows.laid_unicode_utf8_first).toArray
  let h5 := putRow h4 6 (flat2 Rows.laid_unicode_utf8_acceptRanges).toArray
  let h6 := putRow h5 7 (flat2 Rows.laid_math_bits_deBruijn32tab).toArray
  let h7 := putRow h6 8 (flat2 Rows.laid_math_bits_deBruijn64tab).toArray
  { w0 with heap := h7 }
set_option maxRecDepth 1000000 in
theorem laid_met (os : Os) (args : Array Value) : laidMet Tryz.prog Rows.ruleExchangeRow.laid ((laidWorld os).forCall (fun _ _ => 0) ⟨#[], args, []⟩).memory :=
  (LaidIn.of_run [1, 7, 8, 5, 6, 2, low, 3, low + 1] 10 (by kernel_rfl) (by kernel_rfl) (by kernel_rfl) (by kernel_rfl)).met
end Go.Proofs.YtpkhlfbgdebpoaaGreatDoor
namespace Go.Proofs.YtpkhlfbgdebpoaaGreatDoor
open Go Go.ChangeShapes Go.WideShapes Go.ChangeAt Go.RowKit
abbrev args0 : Array Value := #[.int .i64 0, .int .i64 0, .int .i64 0, .int .i64 0]
theorem own : ownKnob Tryz.prog.godebug = none := by kernel_rfl
set_option maxRecDepth 1000000 in
theorem wit_vars (os : Os) : ((laidWorld os).forCall (fun _ _ => 0) ⟨#[], args0, []⟩).variablesB Tryz.prog = true := by kernel_rfl
set_option maxRecDepth 1000000 in
theorem wit_heap (os : Os) : (((laidWorld os).forCall (fun _ _ => 0) ⟨#[], args0, []⟩).heap.toList.drop Tryz.prog.globals.size).take ((begin Tryz.prog (fun _ _ => 0) default).world.heap.size - Tryz.prog.globals.size) =
      (begin Tryz.prog (fun _ _ => 0) default).world.heap.toList.drop Tryz.prog.globals.size := by kernel_rfl
set_option maxRecDepth 1000000 in
theorem wit_ok (os : Os) : Input.okWideB Tryz.prog ((laidWorld os).forCall (fun _ _ => 0) ⟨#[], args0, []⟩) 3 ⟨#[], args0, []⟩ = true := by kernel_rfl
set_option maxRecDepth 1000000 in
theorem wit_pre (os : Os) (H : Type) (enc : TypeId × Value → H) : Rows.ruleExchangeSpec.preB enc Tryz.prog Tryz.f3 [] false ((laidWorld os).forCall (fun _ _ => 0) ⟨#[], args0, []⟩).memory args0 8 = true := by kernel_rfl
set_option maxRecDepth 1000000 in
theorem wit_sized (os : Os) (H : Type) (enc : TypeId × Value → H) : Rows.ruleExchangeSpec.sizedB enc Tryz.prog Tryz.f3 false ((laidWorld os).forCall (fun _ _ => 0) ⟨#[], args0, []⟩).memory args0 8 = true := by kernel_rfl
end Go.Proofs.YtpkhlfbgdebpoaaGreatDoor
