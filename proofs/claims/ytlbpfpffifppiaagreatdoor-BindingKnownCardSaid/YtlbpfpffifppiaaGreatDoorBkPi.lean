/-
  A run cut in pieces. By an AI agent.
-/
import Derived.Test.YtlbpfpffifppiaaGreatDoorAmA
namespace Go.AM
open Go

/-- What a code comes to, in a frame of a call. -/
def CodeS (C : Cfg) (c : Code) (s : St) (e : Ex) (s' : St) : Prop :=
  ∀ (G : Gh) b k cs σ t d w, b.roundOf = none → SR G C σ s t d w → Out G C σ w (lone (FrX b t d (.code c :: k)) cs w) b k cs e s'

theorem codeS_run {C : Cfg} (hC : CfgOk C) {R : Rec} (hR : RecOk C R) {c : Code} {nt : Nat} {T : Tm} {d : List ADef} {H : AH} {e : Ex} {s' : St} (h : (compC C 0 c).f R nt T d H = .ok e s') : CodeS C c ⟨nt, T, d, H⟩ e s' :=
  fun G b k cs σ t dd w hb hsr => ((compC_sound hC hR 0 c nt T d H e s' (Nat.pow_pos (by omega)) h (J_zero T)).2 G b k cs σ t dd w (fun _ => hb) hsr).1

theorem codeS_seq {C : Cfg} {a c : Code} {s s1 s' : St} {e : Ex} (h1 : CodeS C a s .nrm s1) (h2 : CodeS C c s1 e s') : CodeS C (.seq a c) s e s' :=
  fun G b k cs σ t d w hb hsr => Out.of_steps (.one stepX_seq) (Grw.refl σ w) ((h1 G b (.code c :: k) cs σ t d w hb hsr).andThen fun σ1 t1 d1 w1 hsr1 => h2 G b k cs σ1 t1 d1 w1 hb hsr1)

/-- Some plain slots. -/
noncomputable def ofVals (l : List (Nat × AV)) : Tm := List.rec (motive := fun _ => Tm) .leaf (fun p _ ih => Tr.setN p.2 ih p.1) l
theorem ofVals_at : ∀ (l : List (Nat × AV)) (u : Nat), (ofVals l).at u = .junk ∨ (u, (ofVals l).at u) ∈ l
  | [], u => .inl (by show Tm.at .leaf u = _; unfold Tm.at; rw [Tr.get_leaf])
  | p :: l, u => by
    show (Tm.at (Tr.setN p.2 (ofVals l) p.1) u = _) ∨ (u, Tm.at (Tr.setN p.2 (ofVals l) p.1) u) ∈ p :: l
    rw [Tm.at_set]
    by_cases e : u = p.1
    · rw [if_pos e]; subst e; exact .inr List.mem_cons_self
    · rw [if_neg e]
      exact (ofVals_at l u).imp id (List.mem_cons_of_mem _)

theorem codeS_gc {C : Cfg} {K : Kit} (hK : KitOk C K) {c : Code} {nt : Nat} {T T' : Tm} {H' : AH} {l : List (Nat × AV)} (h : CodeS C c ⟨nt, T, [], K.H0⟩ .nrm ⟨nt, T', [], H'⟩) (ht : isTab K.tab K.te H' = true) (hl : ∀ p ∈ l, T'.at p.1 = p.2 ∧ plainV p.2 = true) :
    CodeS C c ⟨nt, T, [], K.H0⟩ .nrm ⟨nt, ofVals l, [], K.H0⟩ := by
  intro G b k cs σ t d w hb hsr
  obtain ⟨σ', t', d', w', q1, q2, q3⟩ := h G b k cs σ t d w hb hsr
  have hdom : ∀ x r, σ x = some r → r.id = 1 := by
    intro x r hx
    obtain ⟨k, o, h1, _, _⟩ := hsr.sim.blk x r hx
    simp only at h1
    rw [K.H0_get] at h1
    split at h1
    · assumption
    · cases h1
  generalize hσ : (fun x => if (σ x).isSome then σ' x else none : Own) = σ2
  have hs1 : ∀ x r, σ x = some r → σ2 x = σ' x := fun x r hx => by rw [← hσ]; simp [hx]
  have hs0 : ∀ x, σ x = none → σ2 x = none := fun x hx => by rw [← hσ]; simp [hx]
  have hs2 : ∀ x r, σ2 x = some r → σ' x = some r ∧ ∃ r0, σ x = some r0 := by
    intro x r hx
    cases hx0 : σ x with
    | none => rw [hs0 x hx0] at hx; cases hx
    | some r0 => rw [hs1 x r0 hx0] at hx; exact ⟨hx, r0, rfl⟩
  have hid : ∀ x r, σ2 x = some r → r.id = 1 := by
    intro x r hx
    obtain ⟨h1, r0, h0⟩ := hs2 x r hx
    obtain ⟨r', p1, p2, _⟩ := q2.le x r0 h0
    rw [h1] at p1; cases p1
    exact p2.trans (hdom x r0 h0)
  have hsim : Sim G σ2 K.H0 w' := by
    refine ⟨fun x r hx => ?_, fun x x' r r' k hx hx' he hk hu => ?_, fun x r hx => ?_, fun g k hg => ?_⟩
    · obtain ⟨h1, _⟩ := hs2 x r hx
      obtain ⟨k, o, u1, u2, u3⟩ := q1.sim.blk x r h1
      have hi := hid x r hx
      simp only at u1
      rw [hi, isTab_get ht] at u1
      cases u1
      exact ⟨_, o, by rw [hi, K.H0_get, if_pos rfl], u2, u3.plain hK.tab (Nat.le_refl _) rfl⟩
    · obtain ⟨h1, _⟩ := hs2 x r hx
      obtain ⟨h2, _⟩ := hs2 x' r' hx'
      have hi := hid x r hx
      rw [hi, K.H0_get, if_pos rfl] at hk
      exact q1.sim.uniq x x' r r' k h1 h2 he (by simp only; rw [hi, isTab_get ht]; exact hk) hu
    · rw [hid x r hx]; show 1 < 2; omega
    · obtain ⟨g1, g2, g3⟩ := hsr.sim.gh g k hg
      refine ⟨g1, g2, fun x r hx => ?_⟩
      obtain ⟨_, r0, h0⟩ := hs2 x r hx
      have := g3 x r0 h0
      rw [hdom x r0 h0] at this
      rw [hid x r hx]; exact this
  refine ⟨σ2, t', d', w', ⟨fun g n hg => ?_, ⟨q1.tr.1, fun u => ?_⟩, ?_, hsim⟩, ⟨fun x r hx => ?_, q2.size, fun x hx hn => ⟨(q2.keep x hx hn).1, hs0 x hn⟩, q2.os, q2.tape, q2.output⟩, q3⟩
  · obtain ⟨r0, h0, _⟩ := hsr.gl g n hg
    obtain ⟨r, h1, h2, h3⟩ := q1.gl g n hg
    exact ⟨r, by rw [hs1 g r0 h0]; exact h1, h2, h3⟩
  · simp only
    rcases ofVals_at l u with hu | hu
    · rw [hu]; exact .junk _
    · obtain ⟨h1, h2⟩ := hl _ hu
      have := q1.tr.2 u
      simp only at this h1
      rw [h1] at this
      exact this.plain h2
  · have := q1.dr
    simp only at this ⊢
    cases d' with
    | nil => trivial
    | cons _ _ => exact this.elim
  · obtain ⟨r', h1, h2⟩ := q2.le x r hx
    exact ⟨r', by rw [hs1 x r hx]; exact h1, h2⟩

/-- A call out of its body. -/
theorem codeS_call {C : Cfg} (hC : CfgOk C) {E : Evs} (hE : EvOk C E) {f : FuncId} {fn : Func} {body : Code} (hf : C.P.funcs[f]? = some fn) (hb : fn.body = some body) {H H' : AH} {nt' : Nat} {T' : Tm} (h : CodeS C body ⟨fn.ntmps, .leaf, [], H⟩ .ret ⟨nt', T', [], H'⟩) {v : AV} (hr : resA C.P ⟨nt', T', [], H'⟩ fn.results.toList = some [v]) :
    CallR C f [] H (.ret v H') := by
  intro G σ w ys cs hg hs hl
  obtain ⟨t, he, hsr⟩ := enter_SR (w := w) hg hs hf hb hl (Nat.zero_le _) .normal
  have o := h G (b0 f .normal) [] cs σ t [] w rfl hsr
  obtain ⟨σ1, t1, d1, w1, q1, q2, k0, q3⟩ := o
  have hlv : LeaveR G C f σ w (lone (Frame.enter C.P f ys .normal) cs w) cs (leaveA C E fn [] ⟨nt', T', [], H'⟩ none) := by
    rw [he]
    exact (leave_sound hC hE hf (todo := _) [] ⟨nt', T', [], H'⟩ none trivial σ1 t1 d1 w1 .returning q1.dr q1.gl q1.tr q1.sim rfl).of_steps (Steps.trans q3 (.one (stepX_ret rfl))) q2
  have : leaveA C E fn [] ⟨nt', T', [], H'⟩ none = .ret v H' := by
    simp only [leaveA, hr, one]
  rw [this] at hlv
  exact hlv

/-! ### What the kernel is asked -/
noncomputable def okSlots (T : Tm) (l : List (Nat × AV)) : Bool :=
  List.rec (motive := fun _ => Bool) true (fun p _ ih => Bool.rec (motive := fun _ => Bool) false (Bool.rec (motive := fun _ => Bool) false ih (plainV p.2)) (avEq (getA (pa p.1) T) p.2)) l
theorem okSlots_at {T : Tm} : ∀ {l : List (Nat × AV)}, okSlots T l = true → ∀ p ∈ l, T.at p.1 = p.2 ∧ plainV p.2 = true
  | [], _, p, hp => by cases hp
  | q :: l, h, p, hp => by
    obtain ⟨h1, h2⟩ := brec h
    obtain ⟨h3, h4⟩ := brec h2
    rcases List.mem_cons.1 hp with rfl | hp
    · have := avEq_of _ _ h1
      rw [getA_pa] at this
      exact ⟨this, h3⟩
    · exact okSlots_at h4 p hp
/-- A piece that ends as usual, or by a return. -/
noncomputable def okPiece (K : Kit) (nt : Nat) (ret : Bool) (l : List (Nat × AV)) (r : Res) : Bool :=
  Res.rec (motive := fun _ => Bool) (fun e s => St.rec (motive := fun _ => Bool) (fun nt' T d H =>
      Bool.rec (motive := fun _ => Bool) false (Bool.rec (motive := fun _ => Bool) false (Bool.rec (motive := fun _ => Bool) false (List.rec (motive := fun _ => Bool) true (fun _ _ _ => false) d) (Nat.beq nt' nt)) (okSlots T l))
        (Bool.rec (motive := fun _ => Bool) false (isTab K.tab K.te H) (Ex.rec (motive := fun _ => Bool) (Bool.rec (motive := fun _ => Bool) true false ret) (fun _ => false) ret (fun _ => false) e))) s) false r
theorem okPiece_run {K : Kit} {nt : Nat} {ret : Bool} {l : List (Nat × AV)} {r : Res} (h : okPiece K nt ret l r = true) : ∃ T H, r = .ok (if ret then .ret else .nrm) ⟨nt, T, [], H⟩ ∧ isTab K.tab K.te H = true ∧ ∀ p ∈ l, T.at p.1 = p.2 ∧ plainV p.2 = true := by
  cases r with
  | err => cases h
  | ok e s =>
    obtain ⟨nt', T, d, H⟩ := s
    obtain ⟨h1, h2⟩ := brec h
    obtain ⟨h3, h4⟩ := brec h1
    obtain ⟨h5, h6⟩ := brec h2
    obtain ⟨h7, h8⟩ := brec h6
    have hn : nt' = nt := Nat.eq_of_beq_eq_true h7
    subst hn
    cases d with
    | cons _ _ => cases h8
    | nil =>
      refine ⟨T, H, ?_, h4, okSlots_at h5⟩
      cases e <;> cases ret <;> first | rfl | cases h3

def seqL : Code → Code
  | .seq a _ => a
  | c => c
def seqR : Code → Code
  | .seq _ b => b
  | c => c
def isSeq : Code → Bool
  | .seq _ _ => true
  | _ => false
theorem seq_eq {c : Code} (h : isSeq c = true) : c = .seq (seqL c) (seqR c) := by cases c <;> first | rfl | cases h
end Go.AM
