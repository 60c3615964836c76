/-
  The function of the row, and the main of the program. By an AI agent.
-/
import Derived.Test.YtlbpfpffifppiaaGreatDoorAmF
namespace Go.AM
open Go Go.AM Go.Proofs Go.ChangeShapes Go.WideShapes Go.ChangeAt Go.RowKit
open Go.Proofs.YtlbpfpffifppiaaGreatDoor
theorem renameKnown_named : Tryz.prog.funcNamed "emend/emendlaw19.RenameKnown" = some 4 := by kernel_rfl
theorem renameKnown_inst : Tryz.f4.isInstance Tryz.pinned.checked.prog Rows.renameKnownRow.origin Rows.renameKnownRow.targs := of_decide_eq_true (by kernel_rfl)
theorem renameKnown_wrap : Tryz.f4.isWrapper Tryz.pinned.checked.prog Rows.renameKnownRow.wrapper Rows.renameKnownRow.mainSum := by
  unfold Func.isWrapper; first | (rw [if_pos (by decide +kernel)]; kernel_rfl) | (rw [if_neg (by decide +kernel)]; exact ⟨rfl, rfl⟩)
end Go.AM
namespace Go.AM
open Go Go.AM Go.Proofs Go.ChangeShapes Go.WideShapes Go.ChangeAt Go.RowKit
open Go.Proofs.YtlbpfpffifppiaaGreatDoor
theorem renameKnown_looks : true = Tryz.prog.looks [] := by kernel_rfl
theorem renameKnown_main : Tryz.pinned.checked.prog.mainIs = some (Rows.renameKnownCard.stood.harness.1, Rows.renameKnownCard.stood.harness.2.toList) := by kernel_rfl
end Go.AM
