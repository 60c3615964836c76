/-
  The function of the row, and the main of the program. By an AI agent.
-/
import Derived.Test.YtlbpfpffifppiaaGreatDoorAmF
namespace Go.AM
open Go Go.AM Go.Proofs Go.ChangeShapes Go.WideShapes Go.ChangeAt Go.RowKit
open Go.Proofs.YtlbpfpffifppiaaGreatDoor
theorem bindingKnown_named : Tryz.prog.funcNamed "emend/emendlaw18.BindingKnown" = some 3 := by kernel_rfl
theorem bindingKnown_inst : Tryz.f3.isInstance Tryz.pinned.checked.prog Rows.bindingKnownRow.origin Rows.bindingKnownRow.targs := of_decide_eq_true (by kernel_rfl)
theorem bindingKnown_wrap : Tryz.f3.isWrapper Tryz.pinned.checked.prog Rows.bindingKnownRow.wrapper Rows.bindingKnownRow.mainSum := by
  unfold Func.isWrapper; first | (rw [if_pos (by decide +kernel)]; kernel_rfl) | (rw [if_neg (by decide +kernel)]; exact ⟨rfl, rfl⟩)
end Go.AM
namespace Go.AM
open Go Go.AM Go.Proofs Go.ChangeShapes Go.WideShapes Go.ChangeAt Go.RowKit
open Go.Proofs.YtlbpfpffifppiaaGreatDoor
theorem bindingKnown_looks : true = Tryz.prog.looks [] := by kernel_rfl
theorem bindingKnown_main : Tryz.pinned.checked.prog.mainIs = some (Rows.bindingKnownCard.stood.harness.1, Rows.bindingKnownCard.stood.harness.2.toList) := by kernel_rfl
end Go.AM
