/-
  Facts of the row, one by one. By an AI agent.
-/
import Derived.Test.YtlbpfpffifppiaaGreatDoorAmF
namespace Go.AM
open Go Go.AM Go.Proofs Go.ChangeShapes Go.WideShapes Go.ChangeAt Go.RowKit
open Go.Proofs.YtlbpfpffifppiaaGreatDoor
theorem renameKnown_j0 : (Rows.renameKnownRow.wf (OpenSpec.ofChange (OpenSpec.ofChange Rows.renameKnownSpec).bare)) = true := by kernel_rfl
theorem renameKnown_j1 : (laidOutB Tryz.pinned.checked.prog) = true := by kernel_rfl
theorem renameKnown_j2 : (mapsRowed Tryz.pinned.checked.prog) = true := by kernel_rfl
theorem renameKnown_j3 : (Tryz.f4.params.all (Tryz.pinned.checked.prog.readableRec ·)) = true := by kernel_rfl
theorem renameKnown_j4 : (namedTie Tryz.pinned.checked.prog Rows.renameKnownRow.named (OpenSpec.ofChange Rows.renameKnownSpec).bare.vars) = true := by kernel_rfl
theorem renameKnown_j5 : ((Rows.renameKnownRow.stops == [])) = true := by kernel_rfl
theorem renameKnown_j6 : ((Tryz.pinned.checked.prog.stops == [])) = true := by kernel_rfl
theorem renameKnown_j7 : ((Rows.renameKnownRow.knobs == [])) = true := by kernel_rfl
theorem renameKnown_j8 : ((Tryz.pinned.checked.prog.stopKnobs == [])) = true := by kernel_rfl
end Go.AM
namespace Go.AM
open Go Go.AM Go.Proofs Go.ChangeShapes Go.WideShapes Go.ChangeAt Go.RowKit
open Go.Proofs.YtlbpfpffifppiaaGreatDoor
theorem renameKnown_j13 : ((Rows.renameKnownRow.maps == (Tryz.f4.params.toList ++ (OpenSpec.ofChange Rows.renameKnownSpec).bare.plain.varTypes Tryz.pinned.checked.prog).any (Tryz.pinned.checked.prog.mapsRec ·))) = true := by kernel_rfl
theorem renameKnown_j14 : ((Rows.renameKnownRow.ifaces == (Tryz.f4.params.toList ++ (OpenSpec.ofChange Rows.renameKnownSpec).bare.plain.varTypes Tryz.pinned.checked.prog).any (Tryz.pinned.checked.prog.ifacesRec ·))) = true := by kernel_rfl
theorem renameKnown_j15 : ((Rows.renameKnownRow.mapsOut == Tryz.pinned.checked.prog.mapsAmong Tryz.f4.resultTypes.toList)) = true := by kernel_rfl
theorem renameKnown_j16 : ((Rows.renameKnownRow.loops == (Tryz.f4.params.toList ++ (OpenSpec.ofChange Rows.renameKnownSpec).bare.plain.varTypes Tryz.pinned.checked.prog).any (Tryz.pinned.checked.prog.loopsFrom ·))) = true := by kernel_rfl
theorem renameKnown_j17 : ((Rows.renameKnownRow.wideKeys == (Tryz.f4.params.toList ++ (OpenSpec.ofChange Rows.renameKnownSpec).bare.plain.varTypes Tryz.pinned.checked.prog ++ Tryz.f4.resultTypes.toList).any (Tryz.pinned.checked.prog.wideKeysFrom ·))) = true := by kernel_rfl
theorem renameKnown_j18 : ((OpenSpec.ofChange Rows.renameKnownSpec).bare.vars.all (Tryz.pinned.checked.prog.varReadable ·)) = true := by kernel_rfl
theorem renameKnown_j19 : (Tryz.f4.resultTypes.all (fun t => Tryz.pinned.checked.prog.readableRec t && decide (t < Tryz.pinned.checked.prog.types.size))) = true := by kernel_rfl
theorem renameKnown_j20 : ((Rows.renameKnownRow.ifacesOut == Tryz.f4.resultTypes.toList.any (Tryz.pinned.checked.prog.ifacesRec ·))) = true := by kernel_rfl
theorem renameKnown_j21 : ((Rows.renameKnownRow.loopsOut == Tryz.f4.resultTypes.toList.any (Tryz.pinned.checked.prog.loopsFrom ·))) = true := by kernel_rfl
end Go.AM
