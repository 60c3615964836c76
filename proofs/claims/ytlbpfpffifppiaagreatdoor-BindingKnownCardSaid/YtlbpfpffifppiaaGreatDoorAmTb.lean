/-
  The run of the variables text, for the tie. By an AI agent.
-/
import Derived.Test.YtlbpfpffifppiaaGreatDoorAmTa
namespace Go.Proofs.YtlbpfpffifppiaaGreatDoor
open Go
set_option maxRecDepth 100000
theorem tf7 : ∀ os tape, doorLeaves Tryz.prog 125 8 257 laidL os tape = some (laidL.filter fun x => x.2.handleName?.isNone, (funcsListed laidL).map (·.2.funcsOut)) := fun _ _ => by kernel_rfl
end Go.Proofs.YtlbpfpffifppiaaGreatDoor
