/-
  The witness of the row of RenameKnown. By an AI agent.
-/
import Derived.Test.YtlbpfpffifppiaaGreatDoorAmF
namespace Go.AM
open Go Go.AM Go.Proofs Go.ChangeShapes Go.WideShapes Go.ChangeAt Go.RowKit
open Go.Proofs.YtlbpfpffifppiaaGreatDoor

/- The witness of RenameKnown: the row's list laid in a world. -/
theorem renameKnown_laid_met (os : Os) : laidMet Tryz.prog Rows.renameKnownRow.laid ((World.laidAll Tryz.prog os Rows.renameKnownRow.laid).forCall (fun _ _ => 0) ⟨#[], #[], []⟩).memory :=
  laidMet_laidAll _ (by kernel_rfl) (by kernel_rfl)
theorem renameKnown_reads (os : Os) {H : Type} (enc : TypeId × Value → H) : DataW.whole enc Tryz.prog ((World.laidAll Tryz.prog os Rows.renameKnownRow.laid).forCall (fun _ _ => 0) ⟨#[], #[], []⟩).memory Tryz.f4.params.toList Rows.renameKnownSpec.vars false (#[] : Array Value).toList 8 = some ([], [], []) := by kernel_rfl
theorem renameKnown_shape (os : Os) : ((World.laidAll Tryz.prog os Rows.renameKnownRow.laid).forCall (fun _ _ => 0) ⟨#[], #[], []⟩).Shaped Tryz.prog :=
  World.shaped_of_ZipB (by kernel_rfl) (by kernel_rfl)
theorem renameKnown_ok (os : Os) : Input.okWideB Tryz.prog ((World.laidAll Tryz.prog os Rows.renameKnownRow.laid).forCall (fun _ _ => 0) ⟨#[], #[], []⟩) 4 ⟨#[], #[], []⟩ = true := by kernel_rfl
theorem renameKnown_no : Rows.renameKnownRow.laid.filter (fun x => x.2.handleName?.isSome) = [] := by kernel_rfl
theorem renameKnown_mem : ("strings.asciiSpace", (Rows.laid_strings_asciiSpace : DataW Unit)) ∈ Rows.renameKnownRow.laid := List.mem_of_getElem? (i := 13) (by kernel_rfl)
theorem renameKnown_noInit : Tryz.checked.prog.inits.idxOf? 4 = none := by kernel_rfl
theorem renameKnown_params : Tryz.f4.params = #[] := by kernel_rfl
theorem renameKnown_results : Tryz.f4.resultTypes = #[4] := by kernel_rfl
theorem renameKnown_dom : Rows.renameKnownRow.domain = [] := by kernel_rfl
theorem renameKnown_preRow (os : Os) {H : Type} (enc : TypeId × Value → H) : (OpenSpec.ofChange Rows.renameKnownSpec).preRow enc Tryz.prog Tryz.f4 Rows.renameKnownRow.domain false Rows.renameKnownRow.laid ((World.laidAll Tryz.prog os Rows.renameKnownRow.laid).forCall (fun _ _ => 0) ⟨#[], #[], []⟩).memory #[] :=
  OpenSpec.preRow_of_cond 8 (renameKnown_reads os enc) (by kernel_rfl) (fun k hk => by cases hk) (by kernel_rfl) (renameKnown_laid_met os)
end Go.AM
