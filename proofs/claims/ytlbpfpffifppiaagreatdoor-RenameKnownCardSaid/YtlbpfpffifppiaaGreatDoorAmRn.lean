/-
  RenameKnown, run by the kernel from the table alone, answers true. By an AI agent.
-/
import Derived.Test.YtlbpfpffifppiaaGreatDoorAmR0
import Derived.Test.YtlbpfpffifppiaaGreatDoorAmR1
import Derived.Test.YtlbpfpffifppiaaGreatDoorAmR2
import Derived.Test.YtlbpfpffifppiaaGreatDoorAmR3
namespace Go.AM
open Go Go.AM Go.Proofs
def tells : List ME := [tell0_0, tell0_1, tell0_2, tell1_0, tell1_1, tell1_2, tell2_0, tell2_1, tell2_2, tell3_0, tell3_1]
theorem tells_ok : ∀ m ∈ tells, okME C0 K2R 3000 14 m = true := by
  intro m hm
  simp only [tells, List.mem_cons, List.mem_nil_iff, or_false] at hm
  rcases hm with rfl | rfl | rfl | rfl | rfl | rfl | rfl | rfl | rfl | rfl | rfl
  · exact tell0_0_ok
  · exact tell0_1_ok
  · exact tell0_2_ok
  · exact tell1_0_ok
  · exact tell1_1_ok
  · exact tell1_2_ok
  · exact tell2_0_ok
  · exact tell2_1_ok
  · exact tell2_2_ok
  · exact tell3_0_ok
  · exact tell3_1_ok
def memo3 (f : Nat) : List ME := bif Nat.beq f 14 then tells else memo2R f
noncomputable def K3 : Kit := ⟨lm0, memo3, space, 311⟩
theorem ev3_ok (n : Nat) : EvOk C0 (fastE C0 K3 n) := fast_ok cfg_ok (memo2R_ok K3 (fun f => by
  show memo3 f = memo2R f ∨ (f = 14 ∧ ∀ m ∈ memo3 f, okME C0 K2R 3000 f m = true)
  unfold memo3
  cases h1 : Nat.beq f 14 with
  | true =>
    have : f = 14 := Nat.eq_of_beq_eq_true h1
    subst this
    exact .inr ⟨rfl, tells_ok⟩
  | false => exact .inl rfl) rfl rfl ev2R_ok) n
theorem rename_run : okVal K3 (.bool true) ((fastE C0 K3 3000).call 4 [] K3.H0) = true := by kernel_rfl
end Go.AM
