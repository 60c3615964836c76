/-
  Renamings of the chapter: run by the kernel. By an AI agent.
-/
import Derived.Test.YtlbpfpffifppiaaGreatDoorAmTk
namespace Go.AM
open Go Go.AM Go.Proofs
def tell1_0 : ME := ⟨[.int .i64 15, .str [105, 102], .str [], .int .i64 9], .val (.bool true)⟩
theorem tell1_0_ok : okME C0 K2R 3000 14 tell1_0 = true := by kernel_rfl
def tell1_1 : ME := ⟨[.int .i64 15, .str [70], .str [], .int .i64 17], .val (.bool true)⟩
theorem tell1_1_ok : okME C0 K2R 3000 14 tell1_1 = true := by kernel_rfl
def tell1_2 : ME := ⟨[.int .i64 15, .str [95], .str [], .int .i64 9], .val (.bool true)⟩
theorem tell1_2_ok : okME C0 K2R 3000 14 tell1_2 = true := by kernel_rfl
end Go.AM
