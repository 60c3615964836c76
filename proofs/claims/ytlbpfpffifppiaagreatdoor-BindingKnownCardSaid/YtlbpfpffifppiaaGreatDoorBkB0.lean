/-
  The pieces of BindingKnown. By an AI agent.
-/
import Derived.Test.YtlbpfpffifppiaaGreatDoorBkWk
import Derived.Test.YtlbpfpffifppiaaGreatDoorBkPi
namespace Go.AM
open Go Go.AM Go.Proofs

def memo4 (f : Nat) : List ME := bif Nat.beq f 8 then [worksM] else memo2B f
noncomputable def K4 : Kit := ⟨lm0, memo4, space, 311⟩
theorem ev4_ok (n : Nat) : EvOk C0 (fastE C0 K4 n) := fast_ok cfg_ok (memo2B_ok K4 (fun f => by
  show memo4 f = memo2B f ∨ (f = 8 ∧ ∀ m ∈ memo4 f, okME C0 K2B 3000 f m = true)
  unfold memo4
  cases h1 : Nat.beq f 8 with
  | true =>
    have : f = 8 := Nat.eq_of_beq_eq_true h1
    subst this
    refine .inr ⟨rfl, fun m hm => ?_⟩
    simp only [cond_true, List.mem_cons, List.mem_nil_iff, or_false] at hm
    subst hm
    exact works_ok
  | false => exact .inl rfl) rfl rfl ev2B_ok) n

noncomputable def body3 : Code := match Tryz.f3.body with | some b => b | none => .skip
theorem body3_eq : Tryz.f3.body = some body3 := by kernel_rfl
theorem ntmps3 : Tryz.f3.ntmps = 159 := by kernel_rfl
noncomputable def q1 : Code := seqR body3
noncomputable def q2 : Code := seqR q1
noncomputable def q3 : Code := seqR q2
noncomputable def q4 : Code := seqR q3
noncomputable def q5 : Code := seqR q4
noncomputable def q6 : Code := seqR q5
theorem q0_seq : isSeq body3 = true := by kernel_rfl
theorem q1_seq : isSeq q1 = true := by kernel_rfl
theorem q2_seq : isSeq q2 = true := by kernel_rfl
theorem q3_seq : isSeq q3 = true := by kernel_rfl
theorem q4_seq : isSeq q4 = true := by kernel_rfl
theorem q5_seq : isSeq q5 = true := by kernel_rfl
noncomputable def R4 : Rec := (fastE C0 K4 3000).rec' false
def v0 : List (Nat × AV) := [(0, .bool false)]
def v1 : List (Nat × AV) := (2, .bool false) :: v0
def v2 : List (Nat × AV) := (4, .bool false) :: v1
def v3 : List (Nat × AV) := (5, .bool true) :: v2
def v4 : List (Nat × AV) := (7, .bool false) :: (8, .bool true) :: v3
def v5 : List (Nat × AV) := (9, .bool false) :: (10, .bool true) :: v4
theorem piece0 : okPiece K4 159 false v0 ((compC C0 0 (seqL body3)).f R4 159 .leaf [] K4.H0) = true := by kernel_rfl
end Go.AM
