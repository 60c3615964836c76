/-
  Facts of the row, one by one. By an AI agent.
-/
import Derived.Test.YtlbpfpffifppiaaGreatDoorAmF
namespace Go.AM
open Go Go.AM Go.Proofs Go.ChangeShapes Go.WideShapes Go.ChangeAt Go.RowKit
open Go.Proofs.YtlbpfpffifppiaaGreatDoor
theorem bindingKnown_j0 : (Rows.bindingKnownRow.wf (OpenSpec.ofChange (OpenSpec.ofChange Rows.bindingKnownSpec).bare)) = true := by kernel_rfl
theorem bindingKnown_j1 : (laidOutB Tryz.pinned.checked.prog) = true := by kernel_rfl
theorem bindingKnown_j2 : (mapsRowed Tryz.pinned.checked.prog) = true := by kernel_rfl
theorem bindingKnown_j3 : (Tryz.f3.params.all (Tryz.pinned.checked.prog.readableRec ·)) = true := by kernel_rfl
theorem bindingKnown_j4 : (namedTie Tryz.pinned.checked.prog Rows.bindingKnownRow.named (OpenSpec.ofChange Rows.bindingKnownSpec).bare.vars) = true := by kernel_rfl
theorem bindingKnown_j5 : ((Rows.bindingKnownRow.stops == [])) = true := by kernel_rfl
theorem bindingKnown_j6 : ((Tryz.pinned.checked.prog.stops == [])) = true := by kernel_rfl
theorem bindingKnown_j7 : ((Rows.bindingKnownRow.knobs == [])) = true := by kernel_rfl
theorem bindingKnown_j8 : ((Tryz.pinned.checked.prog.stopKnobs == [])) = true := by kernel_rfl
end Go.AM
namespace Go.AM
open Go Go.AM Go.Proofs Go.ChangeShapes Go.WideShapes Go.ChangeAt Go.RowKit
open Go.Proofs.YtlbpfpffifppiaaGreatDoor
theorem bindingKnown_j13 : ((Rows.bindingKnownRow.maps == (Tryz.f3.params.toList ++ (OpenSpec.ofChange Rows.bindingKnownSpec).bare.plain.varTypes Tryz.pinned.checked.prog).any (Tryz.pinned.checked.prog.mapsRec ·))) = true := by kernel_rfl
theorem bindingKnown_j14 : ((Rows.bindingKnownRow.ifaces == (Tryz.f3.params.toList ++ (OpenSpec.ofChange Rows.bindingKnownSpec).bare.plain.varTypes Tryz.pinned.checked.prog).any (Tryz.pinned.checked.prog.ifacesRec ·))) = true := by kernel_rfl
theorem bindingKnown_j15 : ((Rows.bindingKnownRow.mapsOut == Tryz.pinned.checked.prog.mapsAmong Tryz.f3.resultTypes.toList)) = true := by kernel_rfl
theorem bindingKnown_j16 : ((Rows.bindingKnownRow.loops == (Tryz.f3.params.toList ++ (OpenSpec.ofChange Rows.bindingKnownSpec).bare.plain.varTypes Tryz.pinned.checked.prog).any (Tryz.pinned.checked.prog.loopsFrom ·))) = true := by kernel_rfl
theorem bindingKnown_j17 : ((Rows.bindingKnownRow.wideKeys == (Tryz.f3.params.toList ++ (OpenSpec.ofChange Rows.bindingKnownSpec).bare.plain.varTypes Tryz.pinned.checked.prog ++ Tryz.f3.resultTypes.toList).any (Tryz.pinned.checked.prog.wideKeysFrom ·))) = true := by kernel_rfl
theorem bindingKnown_j18 : ((OpenSpec.ofChange Rows.bindingKnownSpec).bare.vars.all (Tryz.pinned.checked.prog.varReadable ·)) = true := by kernel_rfl
theorem bindingKnown_j19 : (Tryz.f3.resultTypes.all (fun t => Tryz.pinned.checked.prog.readableRec t && decide (t < Tryz.pinned.checked.prog.types.size))) = true := by kernel_rfl
theorem bindingKnown_j20 : ((Rows.bindingKnownRow.ifacesOut == Tryz.f3.resultTypes.toList.any (Tryz.pinned.checked.prog.ifacesRec ·))) = true := by kernel_rfl
theorem bindingKnown_j21 : ((Rows.bindingKnownRow.loopsOut == Tryz.f3.resultTypes.toList.any (Tryz.pinned.checked.prog.loopsFrom ·))) = true := by kernel_rfl
end Go.AM
