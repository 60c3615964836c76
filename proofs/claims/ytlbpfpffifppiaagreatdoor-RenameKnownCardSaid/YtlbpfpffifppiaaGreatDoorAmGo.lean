/-
  No function of the program starts a goroutine. By an AI agent.
-/
import Derived.Test.YtlbpfpffifppiaaGreatDoorAmF
namespace Go.AM
open Go Go.AM Go.Proofs Go.ChangeShapes Go.WideShapes Go.ChangeAt Go.RowKit
open Go.Proofs.YtlbpfpffifppiaaGreatDoor
theorem goes_none {P : Program} (h : P.funcs.any Func.goes = false) (f : FuncId) : P.goes f = false := by
  have h1 : ∀ g : FuncId, (P.funcs[g]?).any Func.goes = false := by
    intro g
    cases hg : P.funcs[g]? with
    | none => rfl
    | some fn =>
      have := Array.any_eq_false.1 h
      obtain ⟨hl, he⟩ := Array.getElem?_eq_some_iff.1 hg
      have h2 := this g hl
      rw [he] at h2
      simpa using h2
  unfold Program.goes
  rw [h, Bool.and_false, Bool.or_false, List.any_eq_false]
  intro g _
  rw [h1 g]
  exact Bool.false_ne_true
theorem goesBy_none {P : Program} {c : OpenClaim} (h : P.funcs.any Func.goes = false) (hs : c.start = .entering) : false = c.goesBy P := by
  unfold OpenClaim.goesBy Program.goesAt Program.goesFrom
  rw [hs]
  cases P.funcNamed c.func with
  | none => rfl
  | some f =>
    show false = (P.goes f || false)
    rw [goes_none h]
    rfl
theorem no_go : Tryz.pinned.checked.prog.funcs.any Func.goes = false := by kernel_rfl
theorem renameKnown_goes : false = Rows.renameKnownRow.goesBy Tryz.pinned.checked.prog := goesBy_none no_go rfl
theorem bindingKnown_goes : false = Rows.bindingKnownRow.goesBy Tryz.pinned.checked.prog := goesBy_none no_go rfl
end Go.AM
