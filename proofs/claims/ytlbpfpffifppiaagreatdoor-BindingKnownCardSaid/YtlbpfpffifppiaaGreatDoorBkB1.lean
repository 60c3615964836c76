/-
  Pieces of BindingKnown, run by the kernel. By an AI agent.
-/
import Derived.Test.YtlbpfpffifppiaaGreatDoorBkB0
namespace Go.AM
open Go Go.AM Go.Proofs
theorem piece1 : okPiece K4 159 false v1 ((compC C0 0 (seqL q1)).f R4 159 (ofVals v0) [] K4.H0) = true := by kernel_rfl
theorem piece2 : okPiece K4 159 false v2 ((compC C0 0 (seqL q2)).f R4 159 (ofVals v1) [] K4.H0) = true := by kernel_rfl
end Go.AM
