/-
  The contract of BindingKnown, lifted. By an AI agent.
-/
import Derived.Test.YtlbpfpffifppiaaGreatDoorBkW
import Derived.Test.YtlbpfpffifppiaaGreatDoorBkB4
namespace Go.AM
open Go Go.AM Go.Proofs Go.ChangeShapes Go.WideShapes Go.ChangeAt Go.RowKit
open Go.Proofs.YtlbpfpffifppiaaGreatDoor

theorem bindingKnown_call : ∃ H', CallR C0 3 [] K4.H0 (.ret (.bool true) H') ∧ isTab K4.tab K4.te H' = true := binding_call

theorem bindingKnown_contract (H : Type) (enc : TypeId × Value → H) (F : Stop.Interp) (W : World) (args : Array Value) (ds gs : List (DataW H)) (before : List MemPlace)
    (hW : DataW.Whole enc Tryz.prog Tryz.f3.params.toList (OpenSpec.ofChange Rows.bindingKnownSpec).vars false W args.toList ds gs before) (hL : laidMetH Tryz.prog Rows.bindingKnownRow.laid W) (hsh : W.ShapedOpen Tryz.prog) :
    Calls Tryz.prog 3 args W fun e W' => ∃ v, e = .returned v ∧ ((OpenSpec.ofChange Rows.bindingKnownSpec).at F).post enc Tryz.prog Tryz.f3 false true false false W args v W' := by
  obtain ⟨H', hc, ht⟩ := bindingKnown_call
  exact said_contract (K := K4) rfl rfl bindingKnown_params bindingKnown_results hc ht (s := (OpenSpec.ofChange Rows.bindingKnownSpec).at F) rfl (fun _ => rfl) bindingKnown_no bindingKnown_mem H enc W args ds gs before hW hL hsh
end Go.AM
namespace Go.AM
open Go Go.AM Go.Proofs Go.ChangeShapes Go.WideShapes Go.ChangeAt Go.RowKit
open Go.Proofs.YtlbpfpffifppiaaGreatDoor

theorem bindingKnown_witness (os : Os) {H : Type} (enc : TypeId × Value → H) : ∃ (w : World) (tape : Tape) (i : Input), w.os = os ∧ (w.forCall tape i).Shaped Tryz.checked.prog ∧ i.vars = [] ∧ Input.okWide Tryz.checked.prog (w.forCall tape i) .any w.heap.size 3 i ∧
    (OpenSpec.ofChange Rows.bindingKnownSpec).preRow enc Tryz.checked.prog Tryz.f3 Rows.bindingKnownRow.domain false Rows.bindingKnownRow.laid (w.forCall tape i).memory i.args ∧ ({} : Assume).holds Tryz.checked.prog (lone (Frame.enter Tryz.checked.prog 3 i.args .normal) [] (w.forCall tape i)) :=
  ⟨World.laidAll Tryz.prog os Rows.bindingKnownRow.laid, fun _ _ => 0, ⟨#[], #[], []⟩, World.laidAll_os _ _ _, bindingKnown_shape os, (Input.okWide_of_okWideB (base := 0) (bindingKnown_ok os)).1, (Input.okWide_of_okWideB (bindingKnown_ok os)).2, bindingKnown_preRow os enc, by
    simp only [Assume.holds]
    exact ⟨by simp, by simp, fun h => (by cases h), by simp, by simp⟩⟩

theorem bindingKnown_lifted (os : Os) (started : os.Started) (H : Type) (enc : TypeId × Value → H) (F : Stop.Interp) :
    ReturnsInHanded {} Tryz.checked os 3 .any ((OpenSpec.ofChange Rows.bindingKnownSpec).preRow enc Tryz.checked.prog Tryz.f3 Rows.bindingKnownRow.domain false Rows.bindingKnownRow.laid) (((OpenSpec.ofChange Rows.bindingKnownSpec).at F).post enc Tryz.checked.prog Tryz.f3 false true false false) :=
  returnsInHanded_of_row (C := Tryz.checked) (s := OpenSpec.ofChange Rows.bindingKnownSpec) own started bindingKnown_noInit Tryz.func3 (bindingKnown_witness os enc)
    (fun W _ args ds gs before _ hW _ _ _ hL hsh _ => bindingKnown_contract H enc F W args ds gs before hW hL hsh)
end Go.AM
