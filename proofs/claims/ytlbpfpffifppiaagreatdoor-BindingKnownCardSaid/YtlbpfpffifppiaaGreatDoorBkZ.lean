/-
  emendlaw18.BindingKnown returns true, without a data race, for every world that holds the listed package-level variables as the program text lays them: the tied card. No condition beyond the given row. By an AI agent.
-/
import Derived.Test.YtlbpfpffifppiaaGreatDoorBkC0
import Derived.Test.YtlbpfpffifppiaaGreatDoorBkC1
import Derived.Test.YtlbpfpffifppiaaGreatDoorBkC2
import Derived.Test.YtlbpfpffifppiaaGreatDoorBkC3
import Derived.Test.YtlbpfpffifppiaaGreatDoorBkG
import Derived.Test.YtlbpfpffifppiaaGreatDoorBkC4
import Derived.Test.YtlbpfpffifppiaaGreatDoorBkC5
import Derived.Test.YtlbpfpffifppiaaGreatDoorBkC6
namespace Go.AM
open Go Go.AM Go.Proofs Go.ChangeShapes Go.WideShapes Go.ChangeAt Go.RowKit
open Go.Proofs.YtlbpfpffifppiaaGreatDoor
theorem am_andB {a b : Bool} (x : a = true) (y : b = true) : (a && b) = true := by rw [x, y]; rfl
theorem bindingKnown_closed : joinedFacts Tryz.pinned.checked.prog 3 Tryz.f3 (OpenSpec.ofChange Rows.bindingKnownSpec).bare Rows.bindingKnownRow = true := by
  unfold joinedFacts
  refine am_andB ?_ bindingKnown_j31
  refine am_andB ?_ bindingKnown_j30
  refine am_andB ?_ bindingKnown_j29
  refine am_andB ?_ (by kernel_rfl)
  refine am_andB ?_ bindingKnown_j27
  refine am_andB ?_ bindingKnown_j26
  refine am_andB ?_ bindingKnown_j25
  refine am_andB ?_ bindingKnown_j24
  refine am_andB ?_ bindingKnown_j23
  refine am_andB ?_ bindingKnown_j22
  refine am_andB ?_ bindingKnown_j21
  refine am_andB ?_ bindingKnown_j20
  refine am_andB ?_ bindingKnown_j19
  refine am_andB ?_ bindingKnown_j18
  refine am_andB ?_ bindingKnown_j17
  refine am_andB ?_ bindingKnown_j16
  refine am_andB ?_ bindingKnown_j15
  refine am_andB ?_ bindingKnown_j14
  refine am_andB ?_ bindingKnown_j13
  refine am_andB ?_ bindingKnown_j12
  refine am_andB ?_ bindingKnown_j11
  refine am_andB ?_ bindingKnown_j10
  refine am_andB ?_ bindingKnown_j9
  refine am_andB ?_ bindingKnown_j8
  refine am_andB ?_ bindingKnown_j7
  refine am_andB ?_ bindingKnown_j6
  refine am_andB ?_ bindingKnown_j5
  refine am_andB ?_ bindingKnown_j4
  refine am_andB ?_ bindingKnown_j3
  refine am_andB ?_ bindingKnown_j2
  refine am_andB ?_ bindingKnown_j1
  exact bindingKnown_j0
end Go.AM
namespace Go.AM
open Go Go.AM Go.Proofs Go.ChangeShapes Go.WideShapes Go.ChangeAt Go.RowKit
open Go.Proofs.YtlbpfpffifppiaaGreatDoor

theorem bindingKnown_said : Rows.BindingKnownSaid :=
  OpenClaim.holds_of_cond 3 Tryz.f3 rfl rfl rfl rfl rfl rfl rfl ⟨rfl, rfl, rfl, rfl, rfl⟩ rfl rfl rfl rfl rfl bindingKnown_named Tryz.func3 bindingKnown_closed
    bindingKnown_inst bindingKnown_wrap
    (fun os started H enc _ F => by rw [OpenClaim.pre_eq_preRow]; exact bindingKnown_lifted os started H enc F)

theorem bindingKnown_plain (f : FuncId) (fn : Func) (hf : Tryz.pinned.checked.prog.funcNamed "emend/emendlaw18.BindingKnown" = some f) (hfn : Tryz.pinned.checked.prog.funcs[f]? = some fn) :
    true = Tryz.pinned.checked.prog.looks [] ∧ ∀ (j : Nat) t, fn.params[j]? = some t → Tryz.pinned.checked.prog.wantsStandIn t = false := by
  obtain rfl : f = 3 := Option.some.inj (bindingKnown_named.symm.trans hf) |>.symm
  obtain rfl : fn = Tryz.f3 := (Option.some.inj (Tryz.func3.symm.trans hfn)).symm
  refine ⟨bindingKnown_looks, fun j t ht => ?_⟩
  rw [bindingKnown_params] at ht
  simp at ht

theorem bindingKnown_card : Rows.BindingKnownCardSaid :=
  Claim7.holds_tied_plain_at .later [] _ _ _ _ bindingKnown_said (fun _ h => by cases h) bindingKnown_wf (fun _ h => by cases h) bindingKnown_row_tie rfl ⟨rfl, rfl⟩ bindingKnown_main rfl bindingKnown_plain bindingKnown_goes
end Go.AM
namespace Go.Proofs.YtlbpfpffifppiaaGreatDoor
/-- The card. -/
theorem bindingKnown_card : Rows.BindingKnownCardSaid := Go.AM.bindingKnown_card
end Go.Proofs.YtlbpfpffifppiaaGreatDoor
