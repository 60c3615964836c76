/-
  The program fits the machine; the calls that come again and again. By an AI agent.
-/
import Derived.Test.YtlbpfpffifppiaaGreatDoorAm8
import Derived.Test.YtlbpfpffifppiaaGreatDoorAm9
import Derived.KernelRfl
namespace Go.AM
open Go Go.AM Go.Proofs

theorem names_all : (Tryz.prog.funcs.toList.all fun fn => fn.name != "runtime.NumGoroutine") = true := by kernel_rfl
theorem cfg_ok : CfgOk C0 := by
  refine ⟨fun f fn hf => ?_, fun f fn e hf hb he => ?_⟩
  · have hf' : Tryz.prog.funcs[f]? = some fn := hf
    have hm : fn ∈ Tryz.prog.funcs.toList := by simpa using Array.mem_of_getElem? hf'
    have := List.all_eq_true.1 names_all fn hm
    simpa using this
  · have he' : extF f = some e := he
    have hf' : Tryz.prog.funcs[f]? = some fn := hf
    unfold extF at he'
    cases h1 : Nat.beq f 152 with
    | true =>
      rw [h1] at he'
      cases he'
      have : f = 152 := Nat.eq_of_beq_eq_true h1
      subst this
      have h2 : Tryz.prog.funcs[152]? = some Tryz.f152 := Tryz.func152
      rw [h2] at hf'
      cases hf'
      exact ⟨by kernel_rfl, by kernel_rfl⟩
    | false =>
      rw [h1] at he'
      simp only [cond_false] at he'
      cases h1 : Nat.beq f 181 with
      | true =>
        rw [h1] at he'
        cases he'
        have : f = 181 := Nat.eq_of_beq_eq_true h1
        subst this
        have h2 : Tryz.prog.funcs[181]? = some Tryz.f181 := Tryz.func181
        rw [h2] at hf'
        cases hf'
        exact ⟨by kernel_rfl, by kernel_rfl⟩
      | false =>
        rw [h1] at he'
        simp only [cond_false] at he'
        cases h1 : Nat.beq f 192 with
        | true =>
          rw [h1] at he'
          cases he'
          have : f = 192 := Nat.eq_of_beq_eq_true h1
          subst this
          have h2 : Tryz.prog.funcs[192]? = some Tryz.f192 := Tryz.func192
          rw [h2] at hf'
          cases hf'
          exact ⟨by kernel_rfl, by kernel_rfl⟩
        | false =>
          rw [h1] at he'
          cases he'

theorem kit_ok {C : Cfg} {K : Kit} (hC : C.gl = glF) (hK : K.tab = space) : KitOk C K := by
  refine ⟨fun g n h => ?_, ⟨255, by rw [hC]; rfl⟩, by rw [hK]; kernel_rfl⟩
  rw [hC] at h
  unfold glF at h
  cases h1 : Nat.beq g 1 with
  | true => exact Nat.eq_of_beq_eq_true h1
  | false => rw [h1] at h; cases h
theorem ev0_ok (n : Nat) : EvOk C0 (fastE C0 K0 n) := fast_ok cfg_ok (fun _ _ hm => by cases hm) n
end Go.AM
namespace Go.AM
open Go Go.AM Go.Proofs

theorem m151a : okBlk K0 rOps 9 0 23 1 (some 23) ((fastE C0 K0 3000).call 151 aOps K0.H0) = true := by kernel_rfl
theorem m151b : okBlk K0 rWords 9 0 21 1 (some 21) ((fastE C0 K0 3000).call 151 aWords K0.H0) = true := by kernel_rfl
theorem m189a : okVal K0 rLetters ((fastE C0 K0 3000).call 189 aLetters K0.H0) = true := by kernel_rfl
theorem m189b : okVal K0 rDigits ((fastE C0 K0 3000).call 189 aDigits K0.H0) = true := by kernel_rfl

theorem known_val {C : Cfg} {K K' : Kit} (hK : KitOk C K) (ht : K'.tab = K.tab) (he : K'.te = K.te) {n : Nat} (hE : EvOk C (fastE C K n)) {f : FuncId} {args : List AV} {v : AV} (h : okVal K v ((fastE C K n).call f args K.H0) = true) (hv : plainV v = true) (ha : plainL args = true) {H : AH} (hH : isTab K'.tab K'.te H = true) : CallR C f args H (.ret v H) := by
  obtain ⟨H', h1, h2⟩ := okVal_ret h
  have hc := hE.call f args K.H0
  rw [h1] at hc
  rw [ht, he] at hH
  exact memo_val hK hc hv ha h2 hH
theorem known_blk {C : Cfg} {K K' : Kit} (hK : KitOk C K) (ht : K'.tab = K.tab) (he : K'.te = K.te) {n : Nat} (hE : EvOk C (fastE C K n)) {f : FuncId} {args : List AV} {cs : List AV} {e : TypeId} {off len esz : Nat} {cap : Option Nat}
    (h : okBlk K cs e off len esz cap ((fastE C K n).call f args K.H0) = true) (hcs : plainL cs = true) (ha : plainL args = true) {H : AH} (hH : isTab K'.tab K'.te H = true) : CallR C f args H (.ret (.slc H.next off len cap esz) (H.new (.cells cs e 0 0))) := by
  obtain ⟨id, H', h1, h2, h3, h4⟩ := okBlk_ret h
  have hc := hE.call f args K.H0
  rw [h1] at hc
  rw [ht, he] at hH
  exact memo_blk hK hc h4 hcs h3 ha h2 hH

/-- An entry holds: it was run. -/
noncomputable def okME (C : Cfg) (K : Kit) (n : Nat) (f : FuncId) (m : ME) : Bool :=
  MO.rec (motive := fun _ => Bool) (fun v => Bool.rec (motive := fun _ => Bool) false (okVal K v ((fastE C K n).call f m.args K.H0)) (plainV v && plainL m.args)) (fun _ _ => false) m.out
noncomputable def okAll (C : Cfg) (K : Kit) (n : Nat) (f : FuncId) (l : List ME) : Bool :=
  List.rec (motive := fun _ => Bool) true (fun m _ ih => Bool.rec (motive := fun _ => Bool) false ih (okME C K n f m)) l
theorem okAll_mem {C : Cfg} {K : Kit} {n : Nat} {f : FuncId} : ∀ {l : List ME}, okAll C K n f l = true → ∀ m ∈ l, okME C K n f m = true
  | [], _, m, hm => by cases hm
  | x :: l, h, m, hm => by
    obtain ⟨h1, h2⟩ := brec h
    rcases List.mem_cons.1 hm with rfl | hm
    · exact h1
    · exact okAll_mem h2 m hm
theorem okME_call {C : Cfg} {K K' : Kit} (hK : KitOk C K) (ht : K'.tab = K.tab) (he : K'.te = K.te) {n : Nat} (hE : EvOk C (fastE C K n)) {f : FuncId} {m : ME} (h : okME C K n f m = true) {H : AH} (hH : isTab K'.tab K'.te H = true) : CallR C f m.args H (m.out.out H) := by
  obtain ⟨args, out⟩ := m
  cases out with
  | val v =>
    obtain ⟨h1, h2⟩ := brec h
    simp only [Bool.and_eq_true] at h1
    exact known_val hK ht he hE h2 h1.1 h1.2 hH
  | blk k g => cases h

theorem memo1_ok (K : Kit) (hm : K.memo = memo1) (ht : K.tab = K0.tab) (he : K.te = K0.te) : MemoOk C0 K := by
  intro f m hmm H hH
  rw [hm] at hmm
  unfold memo1 at hmm
  cases h1 : Nat.beq f 151 with
  | true =>
    rw [h1] at hmm
    have : f = 151 := Nat.eq_of_beq_eq_true h1
    subst this
    simp only [cond_true, List.mem_cons, List.mem_nil_iff, or_false] at hmm
    rcases hmm with rfl | rfl
    · exact known_blk (kit_ok rfl rfl) ht he (ev0_ok 3000) m151a (by kernel_rfl) (by kernel_rfl) hH
    · exact known_blk (kit_ok rfl rfl) ht he (ev0_ok 3000) m151b (by kernel_rfl) (by kernel_rfl) hH
  | false =>
    rw [h1] at hmm
    simp only [cond_false] at hmm
    cases h2 : Nat.beq f 189 with
    | true =>
      rw [h2] at hmm
      have : f = 189 := Nat.eq_of_beq_eq_true h2
      subst this
      simp only [cond_true, List.mem_cons, List.mem_nil_iff, or_false] at hmm
      rcases hmm with rfl | rfl
      · exact known_val (kit_ok rfl rfl) ht he (ev0_ok 3000) m189a (by kernel_rfl) (by kernel_rfl) hH
      · exact known_val (kit_ok rfl rfl) ht he (ev0_ok 3000) m189b (by kernel_rfl) (by kernel_rfl) hH
    | false => rw [h2] at hmm; cases hmm
theorem ev1_ok (n : Nat) : EvOk C0 (fastE C0 K1 n) := fast_ok cfg_ok (memo1_ok K1 rfl rfl rfl) n
end Go.AM
namespace Go.AM
open Go
theorem known_run {C : Cfg} {K : Kit} {n : Nat} (hE : EvOk C (fastE C K n)) {f : FuncId} {args : List AV} {v : AV} (h : okVal K v ((fastE C K n).call f args K.H0) = true) : ∃ H', CallR C f args K.H0 (.ret v H') ∧ isTab K.tab K.te H' = true := by
  obtain ⟨H', h1, h2⟩ := okVal_ret h
  have hc := hE.call f args K.H0
  rw [h1] at hc
  exact ⟨H', hc, h2⟩
end Go.AM
