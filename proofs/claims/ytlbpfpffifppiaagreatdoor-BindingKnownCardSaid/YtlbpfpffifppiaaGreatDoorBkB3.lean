/-
  The last piece of BindingKnown, run by the kernel. By an AI agent.
-/
import Derived.Test.YtlbpfpffifppiaaGreatDoorBkB0
namespace Go.AM
open Go Go.AM Go.Proofs
theorem piece6 : okPiece K4 159 true [(0, .bool true)] ((compC C0 0 q6).f R4 159 (ofVals v5) [] K4.H0) = true := by kernel_rfl
end Go.AM
