/-
  What the body of the row names. By an AI agent.
-/
import Derived.Test.YtlbpfpffifppiaaGreatDoorAmF
namespace Go.AM
open Go Go.AM Go.Proofs Go.ChangeShapes Go.WideShapes Go.ChangeAt Go.RowKit
open Go.Proofs.YtlbpfpffifppiaaGreatDoor
theorem renameKnown_j11 : ((Rows.renameKnownRow.recurses == Tryz.pinned.checked.prog.recurses 4)) = true := by kernel_rfl
theorem renameKnown_j12 : ((Rows.renameKnownRow.named == Tryz.pinned.checked.prog.varsNamed 4)) = true := by kernel_rfl
end Go.AM
