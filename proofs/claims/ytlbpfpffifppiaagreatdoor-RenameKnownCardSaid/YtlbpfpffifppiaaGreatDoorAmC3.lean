/-
  What the program may stop by and enter. By an AI agent.
-/
import Derived.Test.YtlbpfpffifppiaaGreatDoorAmF
namespace Go.AM
open Go Go.AM Go.Proofs Go.ChangeShapes Go.WideShapes Go.ChangeAt Go.RowKit
open Go.Proofs.YtlbpfpffifppiaaGreatDoor
theorem renameKnown_j22 : ((Rows.renameKnownRow.plainKeys == Tryz.pinned.checked.prog.plainKeys)) = true := by kernel_rfl
theorem renameKnown_j23 : (Rows.renameKnownRow.shortTexts.isNone) = true := by kernel_rfl
theorem renameKnown_j24 : (Tryz.pinned.checked.prog.stopsHeard) = true := by kernel_rfl
theorem renameKnown_j25 : (Tryz.pinned.checked.prog.mayEnter) = true := by kernel_rfl
theorem renameKnown_j26 : ((Rows.renameKnownRow.lifted == Tryz.pinned.checked.prog.liftsFinal)) = true := by kernel_rfl
theorem renameKnown_j27 : ((Tryz.pinned.checked.prog.make == some Rows.renameKnownRow.make)) = true := by kernel_rfl
theorem renameKnown_j28 : ((Rows.renameKnownRow.kinds == (if Rows.renameKnownRow.domain.isEmpty then [] else Tryz.f4.params.toList.map fun t => match Tryz.pinned.checked.prog.underlying t with | some (.int k) => some k | _ => none))) = true := by kernel_rfl
theorem renameKnown_j29 : ((Rows.renameKnownRow.pinned == Rows.renameKnownRow.pinnedBy)) = true := by kernel_rfl
theorem renameKnown_j30 : ((Rows.renameKnownRow.veiled == (Tryz.f4.params.toList ++ (OpenSpec.ofChange Rows.renameKnownSpec).bare.plain.varTypes Tryz.pinned.checked.prog ++ Tryz.f4.resultTypes.toList).any (Tryz.pinned.checked.prog.veiledRec ·))) = true := by kernel_rfl
theorem renameKnown_j31 : (Rows.renameKnownRow.veiledFits Tryz.pinned.checked.prog Tryz.f4.params.toList (Tryz.f4.params.toList ++ (OpenSpec.ofChange Rows.renameKnownSpec).bare.plain.varTypes Tryz.pinned.checked.prog ++ Tryz.f4.resultTypes.toList)) = true := by kernel_rfl
end Go.AM
