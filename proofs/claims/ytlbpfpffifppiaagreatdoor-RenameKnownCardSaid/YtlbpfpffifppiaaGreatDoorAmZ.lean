/-
  emendlaw19.RenameKnown returns true, without a data race, for every world that holds the listed package-level variables as the program text lays them: the tied card. No condition beyond the given row. By an AI agent.
-/
import Derived.Test.YtlbpfpffifppiaaGreatDoorAmC0
import Derived.Test.YtlbpfpffifppiaaGreatDoorAmC1
import Derived.Test.YtlbpfpffifppiaaGreatDoorAmC2
import Derived.Test.YtlbpfpffifppiaaGreatDoorAmC3
import Derived.Test.YtlbpfpffifppiaaGreatDoorAmG
import Derived.Test.YtlbpfpffifppiaaGreatDoorAmC4
import Derived.Test.YtlbpfpffifppiaaGreatDoorAmC5
import Derived.Test.YtlbpfpffifppiaaGreatDoorAmGo
namespace Go.AM
open Go Go.AM Go.Proofs Go.ChangeShapes Go.WideShapes Go.ChangeAt Go.RowKit
open Go.Proofs.YtlbpfpffifppiaaGreatDoor
theorem am_andR {a b : Bool} (x : a = true) (y : b = true) : (a && b) = true := by rw [x, y]; rfl
theorem renameKnown_closed : joinedFacts Tryz.pinned.checked.prog 4 Tryz.f4 (OpenSpec.ofChange Rows.renameKnownSpec).bare Rows.renameKnownRow = true := by
  unfold joinedFacts
  refine am_andR ?_ renameKnown_j31
  refine am_andR ?_ renameKnown_j30
  refine am_andR ?_ renameKnown_j29
  refine am_andR ?_ (by kernel_rfl)
  refine am_andR ?_ renameKnown_j27
  refine am_andR ?_ renameKnown_j26
  refine am_andR ?_ renameKnown_j25
  refine am_andR ?_ renameKnown_j24
  refine am_andR ?_ renameKnown_j23
  refine am_andR ?_ renameKnown_j22
  refine am_andR ?_ renameKnown_j21
  refine am_andR ?_ renameKnown_j20
  refine am_andR ?_ renameKnown_j19
  refine am_andR ?_ renameKnown_j18
  refine am_andR ?_ renameKnown_j17
  refine am_andR ?_ renameKnown_j16
  refine am_andR ?_ renameKnown_j15
  refine am_andR ?_ renameKnown_j14
  refine am_andR ?_ renameKnown_j13
  refine am_andR ?_ renameKnown_j12
  refine am_andR ?_ renameKnown_j11
  refine am_andR ?_ renameKnown_j10
  refine am_andR ?_ renameKnown_j9
  refine am_andR ?_ renameKnown_j8
  refine am_andR ?_ renameKnown_j7
  refine am_andR ?_ renameKnown_j6
  refine am_andR ?_ renameKnown_j5
  refine am_andR ?_ renameKnown_j4
  refine am_andR ?_ renameKnown_j3
  refine am_andR ?_ renameKnown_j2
  refine am_andR ?_ renameKnown_j1
  exact renameKnown_j0
end Go.AM
namespace Go.AM
open Go Go.AM Go.Proofs Go.ChangeShapes Go.WideShapes Go.ChangeAt Go.RowKit
open Go.Proofs.YtlbpfpffifppiaaGreatDoor

theorem renameKnown_said : Rows.RenameKnownSaid :=
  OpenClaim.holds_of_cond 4 Tryz.f4 rfl rfl rfl rfl rfl rfl rfl ⟨rfl, rfl, rfl, rfl, rfl⟩ rfl rfl rfl rfl rfl renameKnown_named Tryz.func4 renameKnown_closed
    renameKnown_inst renameKnown_wrap
    (fun os started H enc _ F => by rw [OpenClaim.pre_eq_preRow]; exact renameKnown_lifted os started H enc F)

theorem renameKnown_plain (f : FuncId) (fn : Func) (hf : Tryz.pinned.checked.prog.funcNamed "emend/emendlaw19.RenameKnown" = some f) (hfn : Tryz.pinned.checked.prog.funcs[f]? = some fn) :
    true = Tryz.pinned.checked.prog.looks [] ∧ ∀ (j : Nat) t, fn.params[j]? = some t → Tryz.pinned.checked.prog.wantsStandIn t = false := by
  obtain rfl : f = 4 := Option.some.inj (renameKnown_named.symm.trans hf) |>.symm
  obtain rfl : fn = Tryz.f4 := (Option.some.inj (Tryz.func4.symm.trans hfn)).symm
  refine ⟨renameKnown_looks, fun j t ht => ?_⟩
  rw [renameKnown_params] at ht
  simp at ht

theorem renameKnown_card : Rows.RenameKnownCardSaid :=
  Claim7.holds_tied_plain_at .later [] _ _ _ _ renameKnown_said (fun _ h => by cases h) renameKnown_wf (fun _ h => by cases h) renameKnown_row_tie rfl ⟨rfl, rfl⟩ renameKnown_main rfl renameKnown_plain renameKnown_goes
end Go.AM
namespace Go.Proofs.YtlbpfpffifppiaaGreatDoor
/-- The card. -/
theorem renameKnown_card : Rows.RenameKnownCardSaid := Go.AM.renameKnown_card
end Go.Proofs.YtlbpfpffifppiaaGreatDoor
