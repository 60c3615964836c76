/-
  Renamings of the chapter: run by the kernel. By an AI agent.
-/
import Derived.Test.YtlbpfpffifppiaaGreatDoorAmTk
namespace Go.AM
open Go Go.AM Go.Proofs
def tell2_0 : ME := ⟨[.int .i64 16, .str [104], .str [112, 97, 99, 107, 97, 103, 101, 32, 112, 10, 102, 117, 110, 99, 32, 104, 40, 97, 32, 105, 110, 116, 41, 32, 105, 110, 116, 32, 123, 32, 98, 32, 58, 61, 32, 97, 59, 32, 114, 101, 116, 117, 114, 110, 32, 98, 32, 125, 10, 102, 117, 110, 99, 32, 103, 40, 41, 32, 123, 125, 10], .int .i64 0], .val (.bool true)⟩
theorem tell2_0_ok : okME C0 K2R 3000 14 tell2_0 = true := by kernel_rfl
def tell2_1 : ME := ⟨[.int .i64 17, .str [99], .str [112, 97, 99, 107, 97, 103, 101, 32, 112, 10, 102, 117, 110, 99, 32, 102, 40, 99, 32, 105, 110, 116, 41, 32, 105, 110, 116, 32, 123, 32, 98, 32, 58, 61, 32, 99, 59, 32, 114, 101, 116, 117, 114, 110, 32, 98, 32, 125, 10, 102, 117, 110, 99, 32, 103, 40, 41, 32, 123, 125, 10], .int .i64 0], .val (.bool true)⟩
theorem tell2_1_ok : okME C0 K2R 3000 14 tell2_1 = true := by kernel_rfl
def tell2_2 : ME := ⟨[.int .i64 30, .str [97], .str [], .int .i64 10], .val (.bool true)⟩
theorem tell2_2_ok : okME C0 K2R 3000 14 tell2_2 = true := by kernel_rfl
end Go.AM
