/-
  The row does not go. By an AI agent.
-/
import Derived.Test.YtlbpfpffifppiaaGreatDoorAmF
namespace Go.AM
open Go Go.AM Go.Proofs Go.ChangeShapes Go.WideShapes Go.ChangeAt Go.RowKit
open Go.Proofs.YtlbpfpffifppiaaGreatDoor
theorem bindingKnown_goes : false = Rows.bindingKnownRow.goesBy Tryz.pinned.checked.prog := by kernel_rfl
end Go.AM
