/-
  What the program may stop by and enter. By an AI agent.
-/
import Derived.Test.YtlbpfpffifppiaaGreatDoorAmF
namespace Go.AM
open Go Go.AM Go.Proofs Go.ChangeShapes Go.WideShapes Go.ChangeAt Go.RowKit
open Go.Proofs.YtlbpfpffifppiaaGreatDoor
theorem bindingKnown_j22 : ((Rows.bindingKnownRow.plainKeys == Tryz.pinned.checked.prog.plainKeys)) = true := by kernel_rfl
theorem bindingKnown_j23 : (Rows.bindingKnownRow.shortTexts.isNone) = true := by kernel_rfl
theorem bindingKnown_j24 : (Tryz.pinned.checked.prog.stopsHeard) = true := by kernel_rfl
theorem bindingKnown_j25 : (Tryz.pinned.checked.prog.mayEnter) = true := by kernel_rfl
theorem bindingKnown_j26 : ((Rows.bindingKnownRow.lifted == Tryz.pinned.checked.prog.liftsFinal)) = true := by kernel_rfl
theorem bindingKnown_j27 : ((Tryz.pinned.checked.prog.make == some Rows.bindingKnownRow.make)) = true := by kernel_rfl
theorem bindingKnown_j28 : ((Rows.bindingKnownRow.kinds == (if Rows.bindingKnownRow.domain.isEmpty then [] else Tryz.f3.params.toList.map fun t => match Tryz.pinned.checked.prog.underlying t with | some (.int k) => some k | _ => none))) = true := by kernel_rfl
theorem bindingKnown_j29 : ((Rows.bindingKnownRow.pinned == Rows.bindingKnownRow.pinnedBy)) = true := by kernel_rfl
theorem bindingKnown_j30 : ((Rows.bindingKnownRow.veiled == (Tryz.f3.params.toList ++ (OpenSpec.ofChange Rows.bindingKnownSpec).bare.plain.varTypes Tryz.pinned.checked.prog ++ Tryz.f3.resultTypes.toList).any (Tryz.pinned.checked.prog.veiledRec ·))) = true := by kernel_rfl
theorem bindingKnown_j31 : (Rows.bindingKnownRow.veiledFits Tryz.pinned.checked.prog Tryz.f3.params.toList (Tryz.f3.params.toList ++ (OpenSpec.ofChange Rows.bindingKnownSpec).bare.plain.varTypes Tryz.pinned.checked.prog ++ Tryz.f3.resultTypes.toList)) = true := by kernel_rfl
end Go.AM
