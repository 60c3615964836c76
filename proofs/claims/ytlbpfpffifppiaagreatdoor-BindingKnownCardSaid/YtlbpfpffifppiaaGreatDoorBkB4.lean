/-
  BindingKnown, run from the table alone, answers true. By an AI agent.
-/
import Derived.Test.YtlbpfpffifppiaaGreatDoorBkB1
import Derived.Test.YtlbpfpffifppiaaGreatDoorBkB2
import Derived.Test.YtlbpfpffifppiaaGreatDoorBkB3
namespace Go.AM
open Go Go.AM Go.Proofs

theorem r4_ok : RecOk C0 R4 := ⟨(ev4_ok 3000).call, (ev4_ok 3000).round⟩
theorem piece_code {c : Code} {T : Tm} {l : List (Nat × AV)} (h : okPiece K4 159 false l ((compC C0 0 c).f R4 159 T [] K4.H0) = true) : CodeS C0 c ⟨159, T, [], K4.H0⟩ .nrm ⟨159, ofVals l, [], K4.H0⟩ := by
  obtain ⟨T', H', h1, h2, h3⟩ := okPiece_run h
  exact codeS_gc (kit_ok rfl rfl) (codeS_run cfg_ok r4_ok h1) h2 h3
theorem last_code {c : Code} {T : Tm} {l : List (Nat × AV)} (h : okPiece K4 159 true l ((compC C0 0 c).f R4 159 T [] K4.H0) = true) : ∃ T' H', CodeS C0 c ⟨159, T, [], K4.H0⟩ .ret ⟨159, T', [], H'⟩ ∧ isTab K4.tab K4.te H' = true ∧ ∀ p ∈ l, T'.at p.1 = p.2 := by
  obtain ⟨T', H', h1, h2, h3⟩ := okPiece_run h
  exact ⟨T', H', codeS_run cfg_ok r4_ok h1, h2, fun p hp => (h3 p hp).1⟩
theorem results3 : Tryz.f3.results.toList = [.tmp 0] := by kernel_rfl
theorem binding_call : ∃ H', CallR C0 3 [] K4.H0 (.ret (.bool true) H') ∧ isTab K4.tab K4.te H' = true := by
  obtain ⟨T', H', h6, ht, hv⟩ := last_code piece6
  have h5 : CodeS C0 q5 ⟨159, ofVals v4, [], K4.H0⟩ .ret ⟨159, T', [], H'⟩ := by rw [seq_eq q5_seq]; exact codeS_seq (piece_code piece5) h6
  have h4 : CodeS C0 q4 ⟨159, ofVals v3, [], K4.H0⟩ .ret ⟨159, T', [], H'⟩ := by rw [seq_eq q4_seq]; exact codeS_seq (piece_code piece4) h5
  have h3 : CodeS C0 q3 ⟨159, ofVals v2, [], K4.H0⟩ .ret ⟨159, T', [], H'⟩ := by rw [seq_eq q3_seq]; exact codeS_seq (piece_code piece3) h4
  have h2 : CodeS C0 q2 ⟨159, ofVals v1, [], K4.H0⟩ .ret ⟨159, T', [], H'⟩ := by rw [seq_eq q2_seq]; exact codeS_seq (piece_code piece2) h3
  have h1 : CodeS C0 q1 ⟨159, ofVals v0, [], K4.H0⟩ .ret ⟨159, T', [], H'⟩ := by rw [seq_eq q1_seq]; exact codeS_seq (piece_code piece1) h2
  have h0 : CodeS C0 body3 ⟨159, .leaf, [], K4.H0⟩ .ret ⟨159, T', [], H'⟩ := by rw [seq_eq q0_seq]; exact codeS_seq (piece_code piece0) h1
  refine ⟨H', codeS_call cfg_ok (ev4_ok 3000) (f := 3) (fn := Tryz.f3) Tryz.func3 body3_eq (by rw [ntmps3]; exact h0) ?_, ht⟩
  rw [results3]
  have hv0 : Tm.at T' 0 = .bool true := hv (0, .bool true) List.mem_cons_self
  simp only [resA, hv0]
end Go.AM
