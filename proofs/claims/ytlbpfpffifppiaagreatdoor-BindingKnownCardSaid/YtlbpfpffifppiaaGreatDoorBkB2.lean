/-
  Pieces of BindingKnown, run by the kernel. By an AI agent.
-/
import Derived.Test.YtlbpfpffifppiaaGreatDoorBkB0
namespace Go.AM
open Go Go.AM Go.Proofs
theorem piece3 : okPiece K4 159 false v3 ((compC C0 0 (seqL q3)).f R4 159 (ofVals v2) [] K4.H0) = true := by kernel_rfl
theorem piece4 : okPiece K4 159 false v4 ((compC C0 0 (seqL q4)).f R4 159 (ofVals v3) [] K4.H0) = true := by kernel_rfl
theorem piece5 : okPiece K4 159 false v5 ((compC C0 0 (seqL q5)).f R4 159 (ofVals v4) [] K4.H0) = true := by kernel_rfl
end Go.AM
