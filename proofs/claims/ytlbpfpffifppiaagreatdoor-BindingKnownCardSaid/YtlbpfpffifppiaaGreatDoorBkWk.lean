/-
  works, run by the kernel, answers true. By an AI agent.
-/
import Derived.Test.YtlbpfpffifppiaaGreatDoorBkTk
namespace Go.AM
open Go Go.AM Go.Proofs

def worksM : ME := ⟨[], .val (.bool true)⟩
theorem works_ok : okME C0 K2B 3000 8 worksM = true := by kernel_rfl
end Go.AM
