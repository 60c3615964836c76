/-
  The row is well formed by the text. By an AI agent.
-/
import Derived.Test.YtlbpfpffifppiaaGreatDoorAmF
namespace Go.AM
open Go Go.AM Go.Proofs Go.ChangeShapes Go.WideShapes Go.ChangeAt Go.RowKit
open Go.Proofs.YtlbpfpffifppiaaGreatDoor
theorem bindingKnown_wf : Rows.bindingKnownRow.wfByText (OpenSpec.ofChange Rows.bindingKnownSpec) = true := by kernel_rfl
end Go.AM
