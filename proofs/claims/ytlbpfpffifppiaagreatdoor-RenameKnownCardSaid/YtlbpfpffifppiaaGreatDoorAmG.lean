/-
  The contract of RenameKnown, lifted. By an AI agent.
-/
import Derived.Test.YtlbpfpffifppiaaGreatDoorAmW
import Derived.Test.YtlbpfpffifppiaaGreatDoorAmA
import Derived.Test.YtlbpfpffifppiaaGreatDoorAmRn
namespace Go.AM
open Go Go.AM Go.Proofs Go.ChangeShapes Go.WideShapes Go.ChangeAt Go.RowKit
open Go.Proofs.YtlbpfpffifppiaaGreatDoor

theorem renameKnown_call : ∃ H', CallR C0 4 [] K3.H0 (.ret (.bool true) H') ∧ isTab K3.tab K3.te H' = true := known_run (ev3_ok 3000) rename_run

theorem renameKnown_contract (H : Type) (enc : TypeId × Value → H) (F : Stop.Interp) (W : World) (args : Array Value) (ds gs : List (DataW H)) (before : List MemPlace)
    (hW : DataW.Whole enc Tryz.prog Tryz.f4.params.toList (OpenSpec.ofChange Rows.renameKnownSpec).vars false W args.toList ds gs before) (hL : laidMetH Tryz.prog Rows.renameKnownRow.laid W) (hsh : W.ShapedOpen Tryz.prog) :
    Calls Tryz.prog 4 args W fun e W' => ∃ v, e = .returned v ∧ ((OpenSpec.ofChange Rows.renameKnownSpec).at F).post enc Tryz.prog Tryz.f4 false true false false W args v W' := by
  obtain ⟨H', hc, ht⟩ := renameKnown_call
  exact said_contract (K := K3) rfl rfl renameKnown_params renameKnown_results hc ht (s := (OpenSpec.ofChange Rows.renameKnownSpec).at F) rfl (fun _ => rfl) renameKnown_no renameKnown_mem H enc W args ds gs before hW hL hsh
end Go.AM
namespace Go.AM
open Go Go.AM Go.Proofs Go.ChangeShapes Go.WideShapes Go.ChangeAt Go.RowKit
open Go.Proofs.YtlbpfpffifppiaaGreatDoor

theorem renameKnown_witness (os : Os) {H : Type} (enc : TypeId × Value → H) : ∃ (w : World) (tape : Tape) (i : Input), w.os = os ∧ (w.forCall tape i).Shaped Tryz.checked.prog ∧ i.vars = [] ∧ Input.okWide Tryz.checked.prog (w.forCall tape i) .any w.heap.size 4 i ∧
    (OpenSpec.ofChange Rows.renameKnownSpec).preRow enc Tryz.checked.prog Tryz.f4 Rows.renameKnownRow.domain false Rows.renameKnownRow.laid (w.forCall tape i).memory i.args ∧ ({} : Assume).holds Tryz.checked.prog (lone (Frame.enter Tryz.checked.prog 4 i.args .normal) [] (w.forCall tape i)) :=
  ⟨World.laidAll Tryz.prog os Rows.renameKnownRow.laid, fun _ _ => 0, ⟨#[], #[], []⟩, World.laidAll_os _ _ _, renameKnown_shape os, (Input.okWide_of_okWideB (base := 0) (renameKnown_ok os)).1, (Input.okWide_of_okWideB (renameKnown_ok os)).2, renameKnown_preRow os enc, by
    simp only [Assume.holds]
    exact ⟨by simp, by simp, fun h => (by cases h), by simp, by simp⟩⟩

theorem renameKnown_lifted (os : Os) (started : os.Started) (H : Type) (enc : TypeId × Value → H) (F : Stop.Interp) :
    ReturnsInHanded {} Tryz.checked os 4 .any ((OpenSpec.ofChange Rows.renameKnownSpec).preRow enc Tryz.checked.prog Tryz.f4 Rows.renameKnownRow.domain false Rows.renameKnownRow.laid) (((OpenSpec.ofChange Rows.renameKnownSpec).at F).post enc Tryz.checked.prog Tryz.f4 false true false false) :=
  returnsInHanded_of_row (C := Tryz.checked) (s := OpenSpec.ofChange Rows.renameKnownSpec) own started renameKnown_noInit Tryz.func4 (renameKnown_witness os enc)
    (fun W _ args ds gs before _ hW _ _ _ hL hsh _ => renameKnown_contract H enc F W args ds gs before hW hL hsh)
end Go.AM
