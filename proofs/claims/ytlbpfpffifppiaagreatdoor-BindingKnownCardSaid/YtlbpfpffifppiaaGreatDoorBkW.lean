/-
  The witness of the row of BindingKnown. By an AI agent.
-/
import Derived.Test.YtlbpfpffifppiaaGreatDoorAmF
namespace Go.AM
open Go Go.AM Go.Proofs Go.ChangeShapes Go.WideShapes Go.ChangeAt Go.RowKit
open Go.Proofs.YtlbpfpffifppiaaGreatDoor

/- The witness of BindingKnown: the row's list laid in a world. -/
theorem bindingKnown_laid_met (os : Os) : laidMet Tryz.prog Rows.bindingKnownRow.laid ((World.laidAll Tryz.prog os Rows.bindingKnownRow.laid).forCall (fun _ _ => 0) ⟨#[], #[], []⟩).memory :=
  laidMet_laidAll _ (by kernel_rfl) (by kernel_rfl)
theorem bindingKnown_reads (os : Os) {H : Type} (enc : TypeId × Value → H) : DataW.whole enc Tryz.prog ((World.laidAll Tryz.prog os Rows.bindingKnownRow.laid).forCall (fun _ _ => 0) ⟨#[], #[], []⟩).memory Tryz.f3.params.toList Rows.bindingKnownSpec.vars false (#[] : Array Value).toList 8 = some ([], [], []) := by kernel_rfl
theorem bindingKnown_shape (os : Os) : ((World.laidAll Tryz.prog os Rows.bindingKnownRow.laid).forCall (fun _ _ => 0) ⟨#[], #[], []⟩).Shaped Tryz.prog :=
  World.shaped_of_ZipB (by kernel_rfl) (by kernel_rfl)
theorem bindingKnown_ok (os : Os) : Input.okWideB Tryz.prog ((World.laidAll Tryz.prog os Rows.bindingKnownRow.laid).forCall (fun _ _ => 0) ⟨#[], #[], []⟩) 3 ⟨#[], #[], []⟩ = true := by kernel_rfl
theorem bindingKnown_no : Rows.bindingKnownRow.laid.filter (fun x => x.2.handleName?.isSome) = [] := by kernel_rfl
theorem bindingKnown_mem : ("strings.asciiSpace", (Rows.laid_strings_asciiSpace : DataW Unit)) ∈ Rows.bindingKnownRow.laid := List.mem_of_getElem? (i := 13) (by kernel_rfl)
theorem bindingKnown_noInit : Tryz.checked.prog.inits.idxOf? 3 = none := by kernel_rfl
theorem bindingKnown_params : Tryz.f3.params = #[] := by kernel_rfl
theorem bindingKnown_results : Tryz.f3.resultTypes = #[4] := by kernel_rfl
theorem bindingKnown_dom : Rows.bindingKnownRow.domain = [] := by kernel_rfl
theorem bindingKnown_preRow (os : Os) {H : Type} (enc : TypeId × Value → H) : (OpenSpec.ofChange Rows.bindingKnownSpec).preRow enc Tryz.prog Tryz.f3 Rows.bindingKnownRow.domain false Rows.bindingKnownRow.laid ((World.laidAll Tryz.prog os Rows.bindingKnownRow.laid).forCall (fun _ _ => 0) ⟨#[], #[], []⟩).memory #[] :=
  OpenSpec.preRow_of_cond 8 (bindingKnown_reads os enc) (by kernel_rfl) (fun k hk => by cases hk) (by kernel_rfl) (bindingKnown_laid_met os)
end Go.AM
