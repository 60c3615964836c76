/-
  Regions in order, code, deferred calls, rounds of a range over a function. By an AI agent.
-/
import Derived.Test.YtlbpfpffifppiaaGreatDoorAm4
namespace Go.AM
open Go
variable {G : Gh}

def GlOk (C : Cfg) (σ : Own) : Prop := ∀ g n, C.gl g = n + 1 → ∃ r, σ g = some r ∧ r.id = g ∧ n + 1 ≤ r.m
theorem GlOk.mono {C : Cfg} {σ σ' : Own} (h : GlOk C σ) (l : σ.le σ') : GlOk C σ' := fun g n e =>
  let ⟨r, h1, h2, h3⟩ := h g n e
  let ⟨r', k1, k2, k3, _⟩ := l g r h1
  ⟨r', k1, k2.trans h2, Nat.le_trans h3 k3⟩

def DL (σ : Own) : List ADef → List Deferred → Prop
  | [], [] => True
  | a :: as, d :: ds => DR σ a d ∧ DL σ as ds
  | _, _ => False
theorem DR.mono {σ σ' : Own} (l : σ.le σ') : ∀ {a : ADef} {d : Deferred}, DR σ a d → DR σ' a d
  | .call _ _, _, ⟨cap, xs, e, h⟩ => ⟨cap, xs, e, h.mono l⟩
  | .coll _, _, ⟨b, r, e, h1, h2⟩ => let ⟨r', k1, k2, _⟩ := l b r h1; ⟨b, r', e, k1, k2.trans h2⟩
theorem DL.mono {σ σ' : Own} (l : σ.le σ') : ∀ {as : List ADef} {ds : List Deferred}, DL σ as ds → DL σ' as ds
  | [], [], _ => trivial
  | _ :: _, _ :: _, ⟨h, hs⟩ => ⟨h.mono l, hs.mono l⟩
  | [], _ :: _, h => h.elim
  | _ :: _, [], h => h.elim

structure SR (G : Gh) (C : Cfg) (σ : Own) (s : St) (t : Array Value) (d : List Deferred) (w : World) : Prop where
  gl : GlOk C σ
  tr : TR σ s.nt s.T t
  dr : DL σ s.dfr d
  sim : Sim G σ s.H w

theorem Tm.at_set (T : Tm) (d : Nat) (v : AV) (x : Nat) : Tm.at (Tr.setN v T d) x = if x = d then v else T.at x := by
  unfold Tm.at
  rw [Tr.get_setN]
  by_cases h : x = d <;> simp [h]

theorem TR.put {σ : Own} {nt : Nat} {T : Tm} {t : Array Value} (h : TR σ nt T t) {d : Nat} {v : AV} {y : Value} (hv : VR σ v y) (hd : d < nt) : TR σ nt (Tr.setN v T d) (t.setIfInBounds d y) := by
  refine ⟨by simp [h.1], fun x => ?_⟩
  rw [Tm.at_set]
  by_cases e : x = d
  · subst e
    rw [if_pos rfl]
    have : x < t.size := by rw [h.1]; exact hd
    simpa [Array.getD_eq_getD_getElem?, this] using hv
  · rw [if_neg e]
    have := h.2 x
    simpa [Array.getD_eq_getD_getElem?, Array.getElem?_setIfInBounds, Ne.symm e] using this

theorem ev_VR {C : Cfg} {σ : Own} {nt : Nat} {T : Tm} {t : Array Value} (hg : GlOk C σ) (h : TR σ nt T t) (x : Operand) : VR σ (ev0 C.gl T x) (evX t x) := by
  cases x with
  | tmp i => exact h.2 i
  | const v => exact ofValue_VR σ v
  | global g =>
    simp only [ev0]
    cases hgl : C.gl g with
    | zero => exact .junk _
    | succ n =>
      obtain ⟨r, h1, h2, h3⟩ := hg g n hgl
      exact .ptr g 0 (n + 1) g r h1 h2 h3
  | func f => exact .fn f [] [] #[] #[] rfl (fun i x h => by simp at h) rfl (fun i x h => by simp at h)

theorem put_SR {C : Cfg} {σ σ' : Own} {s s' : St} {t : Array Value} {d : List Deferred} {w w' : World} (h : SR G C σ s t d w) (l : σ.le σ') {dst : Option Tmp} {v : AV} {y : Value} {H : AH} (hv : VR σ' v y) (hs : Sim G σ' H w') (hp : s.put dst v H = some s') :
    SR G C σ' s' (putX t dst y) d w' := by
  obtain ⟨nt, T, df, H0⟩ := s
  unfold St.put at hp
  simp only at hp
  cases dst with
  | none => cases hp; exact ⟨h.gl.mono l, h.tr.mono l, h.dr.mono l, hs⟩
  | some x =>
    simp only at hp
    obtain ⟨hb, hp⟩ := bif_some hp
    cases hp
    exact ⟨h.gl.mono l, (h.tr.mono l).put hv (by simpa [Nat.blt_eq] using hb), h.dr.mono l, hs⟩

theorem wanted_sound {σ : Own} {nt : Nat} {T : Tm} {t : Array Value} (h : TR σ nt T t) {ops : Array Oper} {o : Oper} {b : Bool} (hw : wantedA ops.toList T o = some b) : Region.wanted o (yielded ops t) = b := by
  unfold wantedA at hw
  unfold Region.wanted yielded
  split at hw
  · rename_i hg
    cases hw
    rw [hg]
  · rename_i j want hg
    rw [hg]
    simp only
    split at hw
    · rename_i q hq
      have hq' : ops[j]? = some q := by simpa using hq
      rw [hq']
      simp only [Option.bind_some]
      split at hw
      · rename_i d hd
        rw [hd]
        simp only [Option.bind_some]
        have hv := h.2 d
        split at hw
        · rename_i u hu
          cases hw
          rw [hu] at hv
          generalize hy : t.getD d undef = y at hv
          cases hv
          have : t[d]? = some (.bool u) := by
            rw [Array.getD_eq_getD_getElem?] at hy
            cases e : t[d]? with
            | none => rw [e] at hy; simp [undef] at hy
            | some z => rw [e] at hy; simpa using hy
          rw [this]
          cases u <;> cases want <;> rfl
        · cases hw
        · rename_i hnb hnj
          cases hw
          generalize hy : t.getD d undef = y at hv
          have hne : ∀ u, y ≠ .bool u := by
            intro u e
            subst e
            generalize hz : T.at d = z at hv hnb hnj
            cases hv with
            | bool u => exact hnb _ rfl
            | junk _ => exact hnj rfl
          cases e : t[d]? with
          | none => rfl
          | some z =>
            rw [Array.getD_eq_getD_getElem?, e] at hy
            simp only [Option.getD_some] at hy
            subst hy
            cases z <;> first | rfl | (exact absurd rfl (hne _))
      · rename_i hd
        cases hw
        rw [hd]
        rfl
    · rename_i hq
      cases hw
      have hq' : ops[j]? = none := by simpa using hq
      rw [hq']
      rfl

def ArrX (P : Program) (m : Machine) (b : Frame) (k : List Item) (cs : List Frame) (σ : Own) : Ex → Array Value → List Deferred → World → Prop
  | .nrm, t, d, w => Steps P m (lone (FrX b t d k) cs w)
  | .exit id, t, d, w => ∃ k0, exitTo id k0 = exitTo id k ∧ Steps P m (lone (FrX b t d (.code (.exit id) :: k0)) cs w)
  | .ret, t, d, w => ∃ k0, Steps P m (lone (FrX b t d (.code .ret :: k0)) cs w)
  | .pan v, t, d, w => ∃ todo y, VR σ v y ∧ Steps P m (lone { FrX b t d todo with mode := .panicking [{ v := y, recovered := false }] } cs w)

def Out (G : Gh) (C : Cfg) (σ : Own) (w : World) (m : Machine) (b : Frame) (k : List Item) (cs : List Frame) (e : Ex) (s' : St) : Prop :=
  ∃ σ' t' d' w', SR G C σ' s' t' d' w' ∧ Grw σ σ' w w' ∧ ArrX C.P m b k cs σ' e t' d' w'

theorem ArrX.of_steps {P : Program} {m m1 : Machine} {b : Frame} {k : List Item} {cs : List Frame} {σ : Own} {e : Ex} {t : Array Value} {d : List Deferred} {w : World} (h : Steps P m m1) (k1 : ArrX P m1 b k cs σ e t d w) : ArrX P m b k cs σ e t d w := by
  cases e with
  | nrm => exact h.trans k1
  | exit id => obtain ⟨k0, e, q⟩ := k1; exact ⟨k0, e, h.trans q⟩
  | ret => obtain ⟨k0, q⟩ := k1; exact ⟨k0, h.trans q⟩
  | pan v => obtain ⟨todo, y, e, q⟩ := k1; exact ⟨todo, y, e, h.trans q⟩
theorem Out.of_steps {C : Cfg} {σ σ1 : Own} {w w1 : World} {m m1 : Machine} {b : Frame} {k : List Item} {cs : List Frame} {e : Ex} {s' : St} (h : Steps C.P m m1) (g : Grw σ σ1 w w1) (o : Out G C σ1 w1 m1 b k cs e s') : Out G C σ w m b k cs e s' :=
  let ⟨σ', t', d', w', h1, h2, h3⟩ := o
  ⟨σ', t', d', w', h1, g.trans h2, h3.of_steps h⟩
/-- What comes behind is dropped by a jump. -/
theorem Out.pass {C : Cfg} {σ : Own} {w : World} {m : Machine} {b : Frame} {x : Item} {k : List Item} {cs : List Frame} {e : Ex} {s' : St} (hx : ∀ id, exitTo id (x :: k) = exitTo id k) (he : e ≠ .nrm) (o : Out G C σ w m b (x :: k) cs e s') : Out G C σ w m b k cs e s' := by
  obtain ⟨σ', t', d', w', h1, h2, h3⟩ := o
  refine ⟨σ', t', d', w', h1, h2, ?_⟩
  cases e with
  | nrm => exact absurd rfl he
  | exit id => obtain ⟨k0, e, q⟩ := h3; exact ⟨k0, e.trans (hx id), q⟩
  | ret => exact h3
  | pan v => exact h3

/-- What a call comes to. -/
def CallR (C : Cfg) (f : FuncId) (args : List AV) (H : AH) : CR → Prop
  | .ret v H' => ∀ (G : Gh) σ w ys cs, GlOk C σ → Sim G σ H w → LR σ args ys.toList → ∃ σ' w' y fr, VR σ' v y ∧ Sim G σ' H' w' ∧ Grw σ σ' w w' ∧
      Steps C.P (lone (Frame.enter C.P f ys .normal) cs w) (lone fr cs w') ∧ fr.fn = f ∧ fr.leaving C.P w' (.returned y)
  | .pan v H' => ∀ (G : Gh) σ w ys cs, GlOk C σ → Sim G σ H w → LR σ args ys.toList → ∃ σ' w' y fr, VR σ' v y ∧ Sim G σ' H' w' ∧ Grw σ σ' w w' ∧
      Steps C.P (lone (Frame.enter C.P f ys .normal) cs w) (lone fr cs w') ∧ fr.fn = f ∧ fr.leaving C.P w' (.panicked [{ v := y, recovered := false }])
  | .err => True
def RoundR (C : Cfg) (id : Nat) (args : List AV) (H : AH) : CR → Prop
  | .ret v H' => ∀ (G : Gh) σ w b r ys c cs, GlOk C σ → Sim G σ H w → σ b = some r → r.id = id → LR σ args ys.toList → ∃ l f tm asg body σ' w' y, (Instr.yield b ys).run C.P w = .ok (.round l f tm asg body) w ∧
      VR σ' v y ∧ Sim G σ' H' w' ∧ Grw σ σ' w w' ∧ Steps C.P (lone (Frame.round l f tm asg body .normal) (c :: cs) w) (lone (c.finish y) cs w')
  | .pan _ _ => False
  | .err => True
structure RecOk (C : Cfg) (R : Rec) : Prop where
  call : ∀ f args H, CallR C f args H (R.call f args H)
  round : ∀ id args H, RoundR C id args H (R.round id args H)

theorem setH_SR {C : Cfg} {σ σ' : Own} {s : St} {t : Array Value} {d : List Deferred} {w w' : World} (h : SR G C σ s t d w) (l : σ.le σ') {H : AH} (hs : Sim G σ' H w') : SR G C σ' (s.setH H) t d w' := by
  obtain ⟨nt, T, df, H0⟩ := s
  exact ⟨h.gl.mono l, h.tr.mono l, h.dr.mono l, hs⟩

theorem clsDefer {C : Cfg} {ρ : Operand → AV} {H : AH} {o : Oper} {c : Call} (h : o.op = .defer c) : (∃ d, opA C ρ H o.op = .dfr d) ∨ opA C ρ H o.op = .err := by
  rw [h]
  unfold opA
  simp only [clsOf, effA]
  unfold deferA
  split
  · split
    · exact .inl ⟨_, rfl⟩
    · exact .inr rfl
  · exact .inr rfl

/-- ONE OPERATION of a region. -/
theorem op_next {C : Cfg} (hC : CfgOk C) {R : Rec} (hR : RecOk C R) {σ : Own} {s s' : St} {t : Array Value} {d : List Deferred} {w : World} (hsr : SR G C σ s t d w) {b : Frame} (hb : R.rd = false → b.roundOf = none)
    {ops : Array Oper} {i : Nat} {rest : List Nat} {o : Oper} (ho : ops[i]? = some o) (hw : Region.wanted o (yielded ops t) = true) {kk k2 : List Item} {cs : List Frame} {e : Ex} {k : St → Res}
    (h : (opA C (ev0 C.gl s.T) s.H o.op).next R s o.dst k = .ok e s')
    (hk : ∀ σ1 s1 t1 d1 w1, SR G C σ1 s1 t1 d1 w1 → k s1 = .ok e s' → Out G C σ1 w1 (lone (FrX b t1 d1 (.inRegion ops rest :: kk)) cs w1) b k2 cs e s') :
    Out G C σ w (lone (FrX b t d (.inRegion ops (i :: rest) :: kk)) cs w) b k2 cs e s' := by
  have hρ := ev_VR hsr.gl hsr.tr
  have hx := exec_sound hC hsr.sim hρ o
  have hr : b.roundOf = none ∨ ∀ c, o.op ≠ .defer c := by
    cases hrd : R.rd with
    | false => exact .inl (hb hrd)
    | true =>
      right
      intro c hc
      rcases clsDefer (C := C) (ρ := ev0 C.gl s.T) (H := s.H) hc with ⟨x, hx⟩ | hx
      · rw [hx] at h; simp [OR.next, hrd] at h
      · rw [hx] at h; simp [OR.next] at h
  generalize hop : opA C (ev0 C.gl s.T) s.H o.op = r at h hx
  cases r with
  | val v H =>
    simp only [OR.next, St.thenPut] at h
    split at h
    · rename_i s1 hp
      obtain ⟨y, w', σ', hrun, hv, hs, hg⟩ := hx
      have hsr1 := put_SR hsr hg.le hv hs hp
      have hout := hk σ' s1 _ _ w' hsr1 h
      rcases hrun with hrun | ⟨hrun, rfl⟩
      · exact hout.of_steps (.one (stepX_value ho hw hr hrun)) hg
      · exact hout.of_steps (.one (stepX_skipped ho hw hr hrun)) hg
    · cases h
  | call f args =>
    obtain ⟨ys, hrun, hl⟩ := hx
    simp only [OR.next] at h
    have hcall := hR.call f args s.H
    generalize R.call f args s.H = cr at h hcall
    cases cr with
    | ret v H =>
      simp only [CR.next, St.thenPut] at h
      split at h
      · rename_i s1 hp
        obtain ⟨σ', w', y, fr, hv, hs, hg, hst, hfn, hlv⟩ := hcall G σ w ys (FrX b t d (.inRegion ops (i :: rest) :: kk) :: cs) hsr.gl hsr.sim hl
        have hsr1 := put_SR hsr hg.le hv hs hp
        have hout := hk σ' s1 _ _ w' hsr1 h
        refine hout.of_steps ((Steps.head (stepX_enter ho hw hr hrun) hst).trans (.one ?_)) hg
        rw [step_leave_returned hlv, FrX_finish, ho]; rfl
      · cases h
    | pan v H =>
      simp only [CR.next, Res.ok.injEq] at h
      obtain ⟨rfl, rfl⟩ := h
      obtain ⟨σ', w', y, fr, hv, hs, hg, hst, hfn, hlv⟩ := hcall G σ w ys (FrX b t d (.inRegion ops (i :: rest) :: kk) :: cs) hsr.gl hsr.sim hl
      refine ⟨σ', t, d, w', setH_SR hsr hg.le hs, hg, .inRegion ops (i :: rest) :: kk, y, hv, (Steps.head (stepX_enter ho hw hr hrun) hst).trans (.one ?_)⟩
      rw [step_leave_panicked hlv]; rfl
    | err => cases h
  | round id args =>
    obtain ⟨bb, r, ys, r1, r2, hl, hrun⟩ := hx
    simp only [OR.next] at h
    have hround := hR.round id args s.H
    generalize R.round id args s.H = cr at h hround
    cases cr with
    | ret v H =>
      simp only [CR.next, St.thenPut] at h
      split at h
      · rename_i s1 hp
        obtain ⟨l, f, tm, asg, body, σ', w', y, hy, hv, hs, hg, hst⟩ := hround G σ w bb r ys (FrX b t d (.inRegion ops (i :: rest) :: kk)) cs hsr.gl hsr.sim r1 r2 hl
        have hsr1 := put_SR hsr hg.le hv hs hp
        have hout := hk σ' s1 _ _ w' hsr1 h
        refine hout.of_steps (Steps.head (stepX_round ho hw hr (hrun.trans hy)) ?_) hg
        rw [FrX_finish, ho] at hst; exact hst
      · cases h
    | pan v H => exact hround.elim
    | err => cases h
  | pan v =>
    obtain ⟨y, hrun, hv⟩ := hx
    simp only [OR.next, Res.ok.injEq] at h
    obtain ⟨rfl, rfl⟩ := h
    exact ⟨σ, t, d, w, hsr, Grw.refl σ w, .inRegion ops (i :: rest) :: kk, y, hv, .one (stepX_panic ho hw hr hrun)⟩
  | dfr x =>
    obtain ⟨x', hrun, hd⟩ := hx
    simp only [OR.next] at h
    cases hrd : R.rd with
    | true => rw [hrd] at h; cases h
    | false =>
      rw [hrd] at h
      simp only [cond_false, St.thenPut] at h
      split at h
      · rename_i s1 hp
        have hsr0 : SR G C σ (s.addD x) t (x' :: d) w := by
          obtain ⟨nt, T, df, H0⟩ := s
          exact ⟨hsr.gl, hsr.tr, ⟨hd, hsr.dr⟩, hsr.sim⟩
        have hsr1 := put_SR (y := undef) hsr0 (Own.le_refl σ) (.tup' (LR.nil σ)) hsr.sim hp
        have hout := hk σ s1 _ _ w hsr1 h
        exact hout.of_steps (.one (stepX_deferred ho hw hr hrun)) (Grw.refl σ w)
      · cases h
  | rcv => cases h
  | err => cases h

/-- THE OPERATIONS OF A REGION, one behind the other. -/
theorem ops_sound {C : Cfg} (hC : CfgOk C) {R : Rec} (hR : RecOk C R) {b : Frame} (hb : R.rd = false → b.roundOf = none) (ops : Array Oper) {kk : List Item} {cs : List Frame} {e : Ex} {s' : St} :
    ∀ (l : List Oper) (i : Nat), ops.toList.drop i = l → ∀ (σ : Own) (s : St) (t : Array Value) (d : List Deferred) (w : World), SR G C σ s t d w → opsA C R ops.toList l s = .ok e s' →
      Out G C σ w (lone (FrX b t d (.inRegion ops (List.range' i l.length) :: kk)) cs w) b kk cs e s' := by
  intro l
  induction l with
  | nil =>
    intro i hl σ s t d w hsr h
    cases h
    exact ⟨σ, t, d, w, hsr, Grw.refl σ w, .one stepX_region_end⟩
  | cons o l ih =>
    intro i hl σ s t d w hsr h
    have hi : i < ops.toList.length := by
      rcases Nat.lt_or_ge i ops.toList.length with h | h
      · exact h
      · rw [List.drop_eq_nil_of_le h] at hl; cases hl
    have ho : ops[i]? = some o := by
      have := congrArg (fun l => l[0]?) hl
      simp [List.getElem?_drop] at this
      simpa using this
    have hl' : ops.toList.drop (i + 1) = l := by
      rw [← List.tail_drop, hl]; rfl
    rw [List.length_cons, List.range'_succ]
    unfold opsA at h
    split at h
    · rename_i hw
      exact op_next hC hR hsr hb ho (wanted_sound hsr.tr hw) h fun σ1 s1 t1 d1 w1 hsr1 h1 => ih (i + 1) hl' σ1 s1 t1 d1 w1 hsr1 h1
    · rename_i hw
      simp only [St.thenPut] at h
      split at h
      · rename_i s1 hp
        have hsr1 := put_SR (y := undef) hsr (Own.le_refl σ) (.tup' (LR.nil σ)) hsr.sim hp
        have hout := ih (i + 1) hl' σ s1 _ _ w hsr1 h
        refine hout.of_steps (.one ?_) (Grw.refl σ w)
        have := stepX_op_skip (P := C.P) (b := b) (t := t) (d := d) (k := kk) (cs := cs) (w := w) (ops := ops) (i := i) (rest := List.range' (i + 1) l.length) (by
          rw [ho]
          simp only [Option.map_some, Option.getD_some]
          exact wanted_sound hsr.tr hw)
        rw [ho] at this
        exact this
      · cases h
    · cases h
end Go.AM
namespace Go.AM
open Go
variable {G : Gh}

structure EvOk (C : Cfg) (E : Evs) : Prop where
  code : ∀ rd c s e s', E.code rd c s = .ok e s' → ∀ (G : Gh) b k cs σ t d w, (rd = false → b.roundOf = none) → SR G C σ s t d w →
    Out G C σ w (lone (FrX b t d (.code c :: k)) cs w) b k cs e s' ∧ (∀ body, c = .loop body → Out G C σ w (lone (FrX b t d (.inLoop body :: k)) cs w) b k cs e s')
  call : ∀ f args H, CallR C f args H (E.call f args H)
  round : ∀ id args H, RoundR C id args H (E.round id args H)

/-- Regions that draw their order. -/
def DrawOk (C : Cfg) : Prop := ∀ (R : Rec), RecOk C R → ∀ (id : Nat) (ops : Array Oper) s e s', drawA C R ops.toList s = .ok e s' → ∀ (G : Gh) b k cs σ t d w, (R.rd = false → b.roundOf = none) → SR G C σ s t d w →
    Out G C σ w (lone (FrX b t d (.code (.region id ops true) :: k)) cs w) b k cs e s'

theorem Out.any {C : Cfg} {σ : Own} {w : World} {m : Machine} {b : Frame} {k k' : List Item} {cs : List Frame} {e : Ex} {s' : St} (he : e = .ret ∨ ∃ v, e = .pan v) (o : Out G C σ w m b k cs e s') : Out G C σ w m b k' cs e s' := by
  obtain ⟨σ', t', d', w', h1, h2, h3⟩ := o
  refine ⟨σ', t', d', w', h1, h2, ?_⟩
  rcases he with rfl | ⟨v, rfl⟩ <;> exact h3

/-- Go on behind a code that ended as usual. -/
theorem Out.andThen {C : Cfg} {σ : Own} {w : World} {m : Machine} {b : Frame} {k k' : List Item} {cs : List Frame} {e : Ex} {s1 s' : St} (o : Out G C σ w m b k cs .nrm s1)
    (h : ∀ σ1 t1 d1 w1, SR G C σ1 s1 t1 d1 w1 → Out G C σ1 w1 (lone (FrX b t1 d1 k) cs w1) b k' cs e s') : Out G C σ w m b k' cs e s' := by
  obtain ⟨σ1, t1, d1, w1, h1, h2, h3⟩ := o
  exact (h σ1 t1 d1 w1 h1).of_steps h3 h2
theorem Out.nrm {C : Cfg} {σ : Own} {w : World} {b : Frame} {k : List Item} {cs : List Frame} {s : St} {t : Array Value} {d : List Deferred} (h : SR G C σ s t d w) {m : Machine} (hs : Steps C.P m (lone (FrX b t d k) cs w)) : Out G C σ w m b k cs .nrm s :=
  ⟨σ, t, d, w, h, Grw.refl σ w, hs⟩

theorem enterLoop_run {P : Program} (fn : FuncId) (t : Array Value) (ps : Array Tmp) (a b : Code) (w : World) : (Instr.enterLoop fn t ps a b none).run P w =
    .ok (w.heap.size + 1, [{ target := .collected w.heap.size, args := #[] }]) ((w.alloc (.deferred (some []))).alloc (.loop { state := .ready, pending := none, fn, tmps := t, params := ps, assign := a, body := b, defers := w.heap.size })) := by
  simp only [Instr.enterLoop, Sem.run_bind, run_newObj_alloc, Result.andThen_ok, Sem.run_pure, alloc_size]

theorem stepX_rangeFunc {P : Program} {b : Frame} {t : Array Value} {d : List Deferred} {k : List Item} {cs : List Frame} {w : World} {f : Operand} {ps : Array Tmp} {a bd : Code} (hr : b.roundOf = none) {g : FuncId} {c1 c2 : Array Value} (hf : evX t f = .func (.func g) c1 c2)
    {fn : Func} (hfn : P.funcs[g]? = some fn) (hn : fn.name ≠ "runtime.NumGoroutine") (hb : fn.body.isSome = true) :
    step P (lone (FrX b t d (.code (.rangeFunc f ps a bd) :: k)) cs w) =
      .next (lone (Frame.enter P g ((c1 ++ #[.func (.yield (w.heap.size + 1)) #[] #[]]) ++ c2) .normal) (FrX b t ({ target := .collected w.heap.size, args := #[] } :: d) (.inRangeFunc (w.heap.size + 1) :: k) :: cs)
        ((w.alloc (.deferred (some []))).alloc (.loop { state := .ready, pending := none, fn := b.fn, tmps := t, params := ps, assign := a, body := bd, defers := w.heap.size }))) := by
  refine step_lone_go ?_
  have he := fun d todo => congrFun (FrX_eval b t d todo) f
  simp only [FrX, hf, hr] at he
  have hl := enterLoop_run (P := P) b.fn t ps a bd w
  obtain ⟨body, hbody⟩ := Option.isSome_iff_exists.1 hb
  have hcst : ∀ (fr : Frame) (v : Value), fr.eval (.const v) = v := fun _ _ => rfl
  simp only [stepG, stepG.exec, FrX, hr, Sem.runT_eq, hl, GStep.bare_after]
  simp [stepG.apply, resolve, he, Deferred.ofValue, invoke, callFunc, hfn, hn, hbody, hcst]

theorem stepX_endRange {P : Program} {b : Frame} {t : Array Value} {d : List Deferred} {k : List Item} {cs : List Frame} {w : World} {l : Nat} {r : Loop} (hl : w.heap[l]? = some (.loop r)) (hs : r.state ≠ .busy) :
    step P (lone (FrX b t d (.endRangeFunc l :: k)) cs w) = .next (lone (FrX b t d ((r.pending.map Item.code).toList ++ k)) cs { w with heap := w.heap.setIfInBounds l (.loop { r with state := .exhausted }) }) := by
  refine step_lone_go ?_
  have hx : (Instr.endLoop l).run P w = .ok r.pending { w with heap := w.heap.setIfInBounds l (.loop { r with state := .exhausted }) } := by
    have hs' : (r.state == .busy) = false := by cases h : r.state <;> first | rfl | (exact absurd h hs)
    simp only [Instr.endLoop, Instr.getLoop, Sem.run_bind, run_getObj_at hl (by simp), Result.andThen_ok, Sem.run_pure, hs', Bool.false_eq_true, if_false, run_setObj_at _ hl (by simp)]
  simp [stepG, stepG.exec, FrX, hx]

theorem rangeFunc_sound {C : Cfg} (hC : CfgOk C) {E : Evs} (hE : EvOk C E) {rd : Bool} {f : Operand} {ps : Array Tmp} {asg body : Code} {s s' : St} {e : Ex} (h : rangeFuncA C E rd f ps asg body s = .ok e s') {b : Frame} (hb : rd = false → b.roundOf = none) {k : List Item} {cs : List Frame}
    {σ : Own} {t : Array Value} {d : List Deferred} {w : World} (hsr : SR G C σ s t d w) : Out G C σ w (lone (FrX b t d (.code (.rangeFunc f ps asg body) :: k)) cs w) b k cs e s' := by
  unfold rangeFuncA at h
  cases hrd : rd with
  | true => rw [hrd] at h; cases h
  | false =>
    have hrd2 := hrd
    subst hrd2
    simp only [cond_false] at h
    have hr := hb rfl
    split at h
    · rename_i g first cap hf
      cases hbd : hasBody C g with
      | false => rw [hbd] at h; cases h
      | true =>
        rw [hbd] at h
        simp only [Bool.not_true, cond_false] at h
        have hv := ev_VR hsr.gl hsr.tr f
        rw [hf] at hv
        obtain ⟨c1, c2, e1, l1, l2⟩ := hv.fn_inv
        obtain ⟨fn, hfn, hfb⟩ : ∃ fn, C.P.funcs[g]? = some fn ∧ fn.body.isSome = true := by
          unfold hasBody at hbd
          split at hbd
          · rename_i fn hfn; exact ⟨fn, hfn, hbd⟩
          · cases hbd
        have hst := stepX_rangeFunc (P := C.P) (d := d) (k := k) (cs := cs) (w := w) (ps := ps) (a := asg) (bd := body) hr e1 hfn (hC.names g fn hfn) hfb
        -- the two new blocks
        obtain ⟨s1, g1⟩ := hsr.sim.new (.dlist false) (.deferred (some [])) 0 0 rfl
        have hsz : (w.alloc (.deferred (some []))).heap.size = w.heap.size + 1 := alloc_size _ _
        have hle1 := g1.le
        generalize hw1 : w.alloc (.deferred (some [])) = w1 at hst s1 g1 hsz
        generalize hσ1 : σ.set w.heap.size ⟨s.H.next, 0, 0⟩ = σ1 at s1 g1 hle1
        have hd1 : σ1 w.heap.size = some ⟨s.H.next, 0, 0⟩ := by rw [← hσ1]; exact Own.set_same _ _ _
        generalize hloop : ({ state := .ready, pending := none, fn := b.fn, tmps := t, params := ps, assign := asg, body := body, defers := w.heap.size } : Loop) = lp at hst
        have hnone : σ1 w1.heap.size = none := by
          cases e : σ1 w1.heap.size with
          | none => rfl
          | some r => exact absurd (s1.lt e) (Nat.lt_irrefl _)
        obtain ⟨s2, g2⟩ := s1.new (.loop 0 none 0 s.nt s.T ps asg body s.H.next) (.loop lp) 0 0 (by
          have hl2 := Own.le_set_new σ1 (b := w1.heap.size) ⟨(s.H.new (.dlist false)).next, 0, 0⟩ hnone
          subst hloop
          refine ⟨_, rfl, rfl, rfl, ?_, rfl, rfl, rfl, ?_⟩
          · exact (hsr.tr.mono hle1).mono hl2
          · obtain ⟨r', q1, q2, _⟩ := hl2 _ _ hd1
            exact ⟨r', q1, q2⟩)
        have hnx : (s.H.new (.dlist false)).next = s.H.next + 1 := AH.next_new _ _
        rw [hnx] at s2 g2
        rw [hsz] at s2 g2
        have hl2 : (σ1.set (w.heap.size + 1) ⟨s.H.next + 1, 0, 0⟩) (w.heap.size + 1) = some ⟨s.H.next + 1, 0, 0⟩ := Own.set_same _ _ _
        generalize σ1.set (w.heap.size + 1) ⟨s.H.next + 1, 0, 0⟩ = σ2 at s2 g2 hl2
        generalize w1.alloc (.loop lp) = w2 at hst s2 g2
        have g12 := g1.trans g2
        have hcall := hE.call g (first ++ [.fn (.yield (s.H.next + 1)) [] []] ++ cap) ((s.H.new (.dlist false)).new (.loop 0 none 0 s.nt s.T ps asg body s.H.next))
        have hargs : LR σ2 (first ++ [.fn (.yield (s.H.next + 1)) [] []] ++ cap) ((c1 ++ #[Value.func (.yield (w.heap.size + 1)) #[] #[]]) ++ c2).toList := by
          simp only [Array.toList_append]
          exact ((l1.mono g12.le).append (LR.cons (.yld _ _ _ hl2 rfl) (LR.nil _))).append (l2.mono g12.le)
        have hdr2 : DR σ2 (.coll s.H.next) { target := .collected w.heap.size, args := #[] } := by
          obtain ⟨r', q1, q2, _⟩ := g2.le _ _ hd1
          exact ⟨_, r', rfl, q1, q2⟩
        have hsr1 : ∀ σ3 w3 H3, σ2.le σ3 → Sim G σ3 H3 w3 → SR G C σ3 ((s.addD (.coll s.H.next)).setH H3) t ({ target := .collected w.heap.size, args := #[] } :: d) w3 := by
          intro σ3 w3 H3 hle hs3
          obtain ⟨nt, T, df, H0⟩ := s
          exact ⟨(hsr.gl.mono g12.le).mono hle, (hsr.tr.mono g12.le).mono hle, ⟨hdr2.mono hle, (hsr.dr.mono g12.le).mono hle⟩, hs3⟩
        split at h
        · rename_i v H3 hret
          rw [hret] at hcall
          obtain ⟨σ3, w3, y, fr, hv3, hs3, hg3, hst3, hfn3, hlv3⟩ := hcall G σ2 w2 _ (FrX b t ({ target := .collected w.heap.size, args := #[] } :: d) (.inRangeFunc (w.heap.size + 1) :: k) :: cs) (hsr.gl.mono g12.le) s2 hargs
          split at h
          · rename_i st pe f' nt T ps' a' b' dl hg
            obtain ⟨hnb, h⟩ : Nat.beq st 1 = false ∧ _ := by
              cases hbb : Nat.beq st 1 with
              | true => rw [hbb] at h; cases h
              | false => rw [hbb] at h; exact ⟨rfl, h⟩
            obtain ⟨r3, q1, q2, _⟩ := hg3.le _ _ hl2
            simp only at q2
            obtain ⟨kk, oo, p1, p2, p3⟩ := hs3.blk _ _ q1
            rw [q2, hg] at p1
            cases p1
            obtain ⟨lo, rfl, z1, z2, z3, z4, z5, z6, z7⟩ := p3
            have hnbusy : lo.state ≠ .busy := by
              intro e
              rw [e] at z1
              simp only [stateNo] at z1
              subst z1
              cases hnb
            obtain ⟨s4, g4⟩ := hs3.turnObj q1 (k := .loop st pe f' nt T ps' a' b' dl) (by rw [q2]; exact hg) (fun _ _ => trivial) (.loop 3 pe f' nt T ps' a' b' dl) (.loop { lo with state := .exhausted }) ⟨_, rfl, rfl, z2, z3, z4, z5, z6, z7⟩
            rw [q2] at s4
            have hsteps : Steps C.P (lone (FrX b t d (.code (.rangeFunc f ps asg body) :: k)) cs w) (lone (FrX b t ({ target := .collected w.heap.size, args := #[] } :: d) ((lo.pending.map Item.code).toList ++ k)) cs { w3 with heap := w3.heap.setIfInBounds (w.heap.size + 1) (.loop { lo with state := .exhausted }) }) := by
              refine (Steps.head hst hst3).trans (.head (step_leave_returned hlv3) ?_)
              refine .one ?_
              exact stepX_endRange p2 hnbusy
            have hsr4 := hsr1 σ3 _ _ hg3.le s4
            have gAll := (g12.trans hg3).trans g4
            split at h
            · cases h
              rw [show (lo.pending.map Item.code).toList ++ k = k by rw [z2]; rfl] at hsteps
              exact ⟨_, _, _, _, hsr4, gAll, hsteps⟩
            · rename_i j _hh
              rw [show (lo.pending.map Item.code).toList ++ k = .code j :: k by rw [z2]; rfl] at hsteps
              have := (hE.code _ _ _ _ _ h G b k cs _ _ _ _ (fun _ => hr) hsr4).1
              exact this.of_steps hsteps gAll
          · cases h
        · rename_i v H3 hpan
          cases h
          rw [hpan] at hcall
          obtain ⟨σ3, w3, y, fr, hv3, hs3, hg3, hst3, hfn3, hlv3⟩ := hcall G σ2 w2 _ (FrX b t ({ target := .collected w.heap.size, args := #[] } :: d) (.inRangeFunc (w.heap.size + 1) :: k) :: cs) (hsr.gl.mono g12.le) s2 hargs
          refine ⟨_, _, _, _, hsr1 σ3 w3 H3 hg3.le hs3, g12.trans hg3, .inRangeFunc (w.heap.size + 1) :: k, y, hv3, ?_⟩
          exact (Steps.head hst hst3).trans (.one (step_leave_panicked hlv3))
        · cases h
    · cases h

theorem code_sound {C : Cfg} (hC : CfgOk C) (hD : DrawOk C) {E : Evs} (hE : EvOk C E) {rd : Bool} {c : Code} {s s' : St} {e : Ex} (h : codeA C E rd c s = .ok e s') {b : Frame} {k : List Item} {cs : List Frame} {σ : Own} {t : Array Value} {d : List Deferred} {w : World}
    (hb : rd = false → b.roundOf = none) (hsr : SR G C σ s t d w) :
    Out G C σ w (lone (FrX b t d (.code c :: k)) cs w) b k cs e s' ∧ (∀ body, c = .loop body → Out G C σ w (lone (FrX b t d (.inLoop body :: k)) cs w) b k cs e s') := by
  have hR : RecOk C (E.rec' rd) := ⟨hE.call, hE.round⟩
  have plain : (∀ body, c ≠ .loop body) → Out G C σ w (lone (FrX b t d (.code c :: k)) cs w) b k cs e s' →
      Out G C σ w (lone (FrX b t d (.code c :: k)) cs w) b k cs e s' ∧ (∀ body, c = .loop body → Out G C σ w (lone (FrX b t d (.inLoop body :: k)) cs w) b k cs e s') := fun hn o => ⟨o, fun body hc => absurd hc (hn body)⟩
  have g0 := Grw.refl σ w
  unfold codeA at h
  split at h
  · cases h; exact plain (by simp) (.nrm hsr (.one stepX_skip))
  · cases h; exact plain (by simp) (.nrm hsr (.one stepX_label))
  · rename_i x y
    refine plain (by simp) ?_
    split at h
    · rename_i s1 h1
      have o1 := (hE.code _ _ _ _ _ h1 G b (.code y :: k) cs σ t d w hb hsr).1
      refine Out.of_steps (.one stepX_seq) g0 (o1.andThen fun σ1 t1 d1 w1 hsr1 => ?_)
      exact (hE.code _ _ _ _ _ h G b k cs σ1 t1 d1 w1 hb hsr1).1
    · rename_i hn
      have o1 := (hE.code _ _ _ _ _ h G b (.code y :: k) cs σ t d w hb hsr).1
      exact Out.of_steps (.one stepX_seq) g0 (o1.pass (fun _ => rfl) (fun e => hn s' (by rw [h, e])))
  · rename_i x y z
    refine plain (by simp) ?_
    split at h
    · rename_i u hu
      have hv := ev_VR hsr.gl hsr.tr x
      rw [hu] at hv
      generalize hy : evX t x = y' at hv
      cases hv
      have o1 := (hE.code _ _ _ _ _ h G b k cs σ t d w hb hsr).1
      refine Out.of_steps (.one (stepX_cond hy)) g0 ?_
      cases u <;> exact o1
    · cases h
  · rename_i id body
    refine plain (by simp) ?_
    split at h
    · rename_i j s1 h1
      have o1 := (hE.code _ _ _ _ _ h1 G b (.inBlock id :: k) cs σ t d w hb hsr).1
      cases hj : Nat.beq j id with
      | true =>
        rw [hj] at h
        simp only [cond_true, Res.ok.injEq] at h
        obtain ⟨rfl, rfl⟩ := h
        have hjid : j = id := by simpa using hj
        subst hjid
        obtain ⟨σ', t', d', w', q1, q2, k0, q3, q4⟩ := o1
        refine ⟨σ', t', d', w', q1, q2, (Steps.head stepX_block q4).trans (.one (stepX_exit ?_))⟩
        rw [q3]; simp [exitTo]
      | false =>
        rw [hj] at h
        simp only [cond_false, Res.ok.injEq] at h
        obtain ⟨rfl, rfl⟩ := h
        have hjid : ¬ id = j := by rintro rfl; simp at hj
        obtain ⟨σ', t', d', w', q1, q2, k0, q3, q4⟩ := o1
        refine ⟨σ', t', d', w', q1, q2, k0, ?_, Steps.head stepX_block q4⟩
        rw [q3]; simp [exitTo, hjid]
    · rename_i hn
      have o1 := (hE.code _ _ _ _ _ h G b (.inBlock id :: k) cs σ t d w hb hsr).1
      refine Out.of_steps (.one stepX_block) g0 ?_
      cases e with
      | nrm => exact o1.andThen fun σ1 t1 d1 w1 hsr1 => .nrm hsr1 (.one stepX_inBlock)
      | exit j => exact absurd h (hn j s')
      | ret => exact o1.any (.inl rfl)
      | pan v => exact o1.any (.inr ⟨v, rfl⟩)
  · rename_i body
    have key : Out G C σ w (lone (FrX b t d (.code body :: .inLoop body :: k)) cs w) b k cs e s' := by
      split at h
      · rename_i s1 h1
        have o1 := (hE.code _ _ _ _ _ h1 G b (.inLoop body :: k) cs σ t d w hb hsr).1
        exact o1.andThen fun σ1 t1 d1 w1 hsr1 => (hE.code _ _ _ _ _ h G b k cs σ1 t1 d1 w1 hb hsr1).2 body rfl
      · rename_i hn
        have o1 := (hE.code _ _ _ _ _ h G b (.inLoop body :: k) cs σ t d w hb hsr).1
        exact o1.pass (fun _ => rfl) (fun e => hn s' (by rw [h, e]))
    refine ⟨key.of_steps (.one stepX_loop) g0, fun body' hc => ?_⟩
    cases hc
    exact key.of_steps (.one stepX_inLoop) g0
  · rename_i body
    refine plain (by simp) ?_
    have o1 := (hE.code _ _ _ _ _ h G b (.inScope body :: k) cs σ t d w hb hsr).1
    refine Out.of_steps (.one stepX_scope) g0 ?_
    cases e with
    | nrm => exact o1.andThen fun σ1 t1 d1 w1 hsr1 => .nrm hsr1 (.one stepX_inScope)
    | exit j => exact o1.pass (fun _ => rfl) (by simp)
    | ret => exact o1.any (.inl rfl)
    | pan v => exact o1.any (.inr ⟨v, rfl⟩)
  · rename_i id
    cases h
    exact plain (by simp) ⟨σ, t, d, w, hsr, g0, k, rfl, .refl _ _⟩
  · cases h
    exact plain (by simp) ⟨σ, t, d, w, hsr, g0, k, .refl _ _⟩
  · rename_i id ops
    refine plain (by simp) ?_
    refine Out.of_steps (.one stepX_region) g0 ?_
    have := ops_sound hC hR hb ops (kk := k) (cs := cs) ops.toList 0 rfl σ s t d w hsr h
    rwa [Array.length_toList, ← List.range_eq_range'] at this
  · rename_i id ops
    exact plain (by simp) (hD _ hR id ops s e s' h G b k cs σ t d w hb hsr)
  · exact plain (by simp) (rangeFunc_sound hC hE h hb hsr)
  · cases h
  · cases h
end Go.AM
namespace Go.AM
open Go
variable {G : Gh}

def resOne (t : Array Value) : ResultVar → Sem Value
  | .tmp x => pure (t.getD x undef)
  | .cell a ty => do loadVar ty (← asAddr (t.getD a undef))
theorem results_eq (fn : Func) (t : Array Value) : results fn t = (do
    let vs ← fn.results.mapM (resOne t)
    pure (if h : vs.size = 1 then vs[0] else .tuple vs)) := by
  unfold results
  congr 1
theorem resA_sound {P : Program} {σ : Own} {s : St} {w : World} (hs : Sim G σ s.H w) {t : Array Value} (ht : TR σ s.nt s.T t) : ∀ (l : List ResultVar) (vs : List AV), resA P s l = some vs →
    ∃ ys : List Value, (l.mapM (m := Sem) (resOne t)).run P w = .ok ys w ∧ LR σ vs ys
  | [], vs, h => by cases h; exact ⟨[], rfl, LR.nil σ⟩
  | .tmp x :: l, vs, h => by
    simp only [resA] at h
    split at h
    · rename_i vs' hv
      cases h
      obtain ⟨ys, h1, h2⟩ := resA_sound hs ht l vs' hv
      exact ⟨t.getD x undef :: ys, by simp only [List.mapM_cons, Sem.run_bind, resOne, Sem.run_pure, Result.andThen_ok, h1], LR.cons (ht.2 x) h2⟩
    · cases h
  | .cell a ty :: l, vs, h => by
    simp only [resA] at h
    split at h
    · rename_i v vs' hl hv
      cases h
      obtain ⟨ys, h1, h2⟩ := resA_sound hs ht l vs' hv
      obtain ⟨ad, ha, u, h3, h4⟩ := opLoad_sound (P := P) hs.toR hl (ht.2 a)
      refine ⟨u :: ys, ?_, LR.cons h4 h2⟩
      have has : ∀ w : World, (asAddr (.pointer (some ad))).run P w = .ok ad w := fun _ => rfl
      simp only [List.mapM_cons, Sem.run_bind, resOne, ha, has, Sem.run_pure, Result.andThen_ok, h3, h1]
    · cases h

theorem results_sound {P : Program} {σ : Own} {s : St} {w : World} (hs : Sim G σ s.H w) {t : Array Value} (ht : TR σ s.nt s.T t) {fn : Func} {vs : List AV} (h : resA P s fn.results.toList = some vs) :
    ∃ y, (results fn t).run P w = .ok y w ∧ VR σ (one vs) y := by
  obtain ⟨ys, h1, h2⟩ := resA_sound hs ht _ _ h
  have hrun : (results fn t).run P w = .ok (if h : ys.toArray.size = 1 then ys.toArray[0] else .tuple ys.toArray) w := by
    simp only [results_eq, Sem.run_bind, Array.mapM_eq_mapM_toList, Sem.run_map, h1, Sem.run_pure]
    rfl
  refine ⟨_, hrun, ?_⟩
  match vs, h2 with
  | [v], h2 =>
    obtain ⟨y, ys', rfl, hy, hys⟩ := h2.uncons
    rw [hys.unnil]
    simpa [one] using hy
  | [], h2 =>
    rw [h2.unnil]
    simpa [one] using VR.tup' (σ := σ) (cs := []) (ys := #[]) (LR.nil σ)
  | v :: u :: vs, h2 =>
    have hl : ys.length ≠ 1 := by rw [← h2.1]; simp
    simp only [List.size_toArray, hl, dite_false, one]
    exact .tup' h2

/-- The mode of a frame that leaves. -/
def MR (σ : Own) : PM → FrameMode → Prop
  | none, m => m = .returning
  | some (v, r), m => ∃ y, VR σ v y ∧ m = .panicking [{ v := y, recovered := r }]
theorem MR.mono {σ σ' : Own} (l : σ.le σ') {p : PM} {m : FrameMode} (h : MR σ p m) : MR σ' p m := by
  match p, h with
  | none, h => exact h
  | some (v, r), ⟨y, h1, h2⟩ => exact ⟨y, h1.mono l, h2⟩
theorem MR.settle {σ : Own} {p : PM} {m : FrameMode} (h : MR σ p m) : MR σ (settleA p) (settle m) := by
  match p, h with
  | none, h => rw [show m = .returning from h]; rfl
  | some (v, true), ⟨y, h1, h2⟩ => rw [h2]; rfl
  | some (v, false), ⟨y, h1, h2⟩ => rw [h2]; exact ⟨y, h1, rfl⟩
theorem MR.ne_run {σ : Own} {p : PM} {m : FrameMode} (h : MR σ p m) : m ≠ .run := by
  match p, h with
  | none, h => rw [show m = .returning from h]; simp
  | some (v, r), ⟨y, h1, h2⟩ => rw [h2]; simp

/-- What a deferred call's code comes to: the frame that defers may be recovered. -/
def OutD (G : Gh) (C : Cfg) (σ : Own) (w : World) (m : Machine) (b : Frame) (k : List Item) (c : Frame) (cs : List Frame) (e : Ex) (s' : St) (p : PM) : Prop :=
  ∃ σ' t' d' w' u, SR G C σ' s' t' d' w' ∧ Grw σ σ' w w' ∧ MR σ' p u ∧ ArrX C.P m b k ({ c with mode := u } :: cs) σ' e t' d' w'
theorem Out.toD {C : Cfg} {σ : Own} {w : World} {m : Machine} {b : Frame} {k : List Item} {c : Frame} {cs : List Frame} {e : Ex} {s' : St} {p : PM} {u : FrameMode} (o : Out G C σ w m b k ({ c with mode := u } :: cs) e s') (h : MR σ p u) : OutD G C σ w m b k c cs e s' p :=
  let ⟨σ', t', d', w', h1, h2, h3⟩ := o
  ⟨σ', t', d', w', u, h1, h2, h.mono h2.le, h3⟩
theorem OutD.of_steps {C : Cfg} {σ σ1 : Own} {w w1 : World} {m m1 : Machine} {b : Frame} {k : List Item} {c : Frame} {cs : List Frame} {e : Ex} {s' : St} {p : PM} (h : Steps C.P m m1) (g : Grw σ σ1 w w1) (o : OutD G C σ1 w1 m1 b k c cs e s' p) : OutD G C σ w m b k c cs e s' p :=
  let ⟨σ', t', d', w', u, h1, h2, h3, h4⟩ := o
  ⟨σ', t', d', w', u, h1, g.trans h2, h3, h4.of_steps h⟩

theorem recover_exec {C : Cfg} {o : Oper} (h : isRcv o.op = true) (ρ : Operand → Value) (w : World) : (execOp ρ o).run C.P w = .ok .recover w := by
  unfold isRcv at h
  split at h
  · rename_i c hop
    unfold execOp
    simp only [hop]
    simp [resolve, invoke, builtin]
  · cases h

theorem stepX_recover {C : Cfg} {b : Frame} (hk : b.kind = .deferred) (hr : b.roundOf = none) {t : Array Value} {d : List Deferred} {k : List Item} {c : Frame} {cs : List Frame} {w : World} {ops : Array Oper} {i : Nat} {rest : List Nat} {o : Oper} (ho : ops[i]? = some o)
    (hw : Region.wanted o (yielded ops t) = true) (h : isRcv o.op = true) {σ : Own} {p : PM} {u : FrameMode} (hm : MR σ p u) :
    ∃ y u', VR σ (rcvA p).1 y ∧ MR σ (rcvA p).2 u' ∧ step C.P (lone (FrX b t d (.inRegion ops (i :: rest) :: k)) ({ c with mode := u } :: cs) w) = .next (lone (FrX b (putX t o.dst y) d (.inRegion ops rest :: k)) ({ c with mode := u' } :: cs) w) := by
  have hx := recover_exec (C := C) h (evX t) w
  have hf := fun v => FrX_finish (b := b) (t := t) (d := d) (k := k) ops i rest v
  simp only [ho, Option.bind_some] at hf
  match p, hm with
  | none, hm =>
    refine ⟨.nilIface, u, .nili, hm, step_lone_go ?_⟩
    rw [stepGX_op ho hw (.inl hr), ← hf]
    rw [show u = .returning from hm]
    simp [stepG.apply, hx, FrX, hr, tryRecover, hk]
  | some (v, true), ⟨y, h1, h2⟩ =>
    refine ⟨.nilIface, u, .nili, ⟨y, h1, h2⟩, step_lone_go ?_⟩
    rw [stepGX_op ho hw (.inl hr), ← hf, h2]
    simp [stepG.apply, hx, FrX, hr, tryRecover, hk]
  | some (v, false), ⟨y, h1, h2⟩ =>
    refine ⟨y, .panicking [{ v := y, recovered := true }], h1, ⟨y, h1, rfl⟩, step_lone_go ?_⟩
    rw [stepGX_op ho hw (.inl hr), ← hf, h2]
    simp [stepG.apply, hx, FrX, hr, tryRecover, hk]

theorem opsD_sound {C : Cfg} (hC : CfgOk C) {R : Rec} (hR : RecOk C R) {b : Frame} (hb : b.roundOf = none) (hk : b.kind = .deferred) (ops : Array Oper) {kk : List Item} {c : Frame} {cs : List Frame} {e : Ex} {s' : St} {p' : PM} :
    ∀ (l : List Oper) (i : Nat), ops.toList.drop i = l → ∀ (σ : Own) (s : St) (t : Array Value) (d : List Deferred) (w : World) (p : PM) (u : FrameMode), SR G C σ s t d w → MR σ p u → opsD C R ops.toList l s p = .ok e s' p' →
      OutD G C σ w (lone (FrX b t d (.inRegion ops (List.range' i l.length) :: kk)) ({ c with mode := u } :: cs) w) b kk c cs e s' p' := by
  intro l
  induction l with
  | nil =>
    intro i hl σ s t d w p u hsr hm h
    cases h
    exact ⟨σ, t, d, w, u, hsr, Grw.refl σ w, hm, .one stepX_region_end⟩
  | cons o l ih =>
    intro i hl σ s t d w p u hsr hm h
    have hi : i < ops.toList.length := by
      rcases Nat.lt_or_ge i ops.toList.length with h | h
      · exact h
      · rw [List.drop_eq_nil_of_le h] at hl; cases hl
    have ho : ops[i]? = some o := by
      have := congrArg (fun l => l[0]?) hl
      simp [List.getElem?_drop] at this
      simpa using this
    have hl' : ops.toList.drop (i + 1) = l := by
      rw [← List.tail_drop, hl]; rfl
    rw [List.length_cons, List.range'_succ]
    have skip : ∀ s1, s.put o.dst (.tup []) s.H = some s1 → wantedA ops.toList s.T o = some false → opsD C R ops.toList l s1 p = .ok e s' p' →
        OutD G C σ w (lone (FrX b t d (.inRegion ops (i :: List.range' (i + 1) l.length) :: kk)) ({ c with mode := u } :: cs) w) b kk c cs e s' p' := by
      intro s1 hp hw h
      have hsr1 := put_SR (y := undef) hsr (Own.le_refl σ) (.tup' (LR.nil σ)) hsr.sim hp
      have hout := ih (i + 1) hl' σ s1 _ _ w p u hsr1 hm h
      refine hout.of_steps (.one ?_) (Grw.refl σ w)
      have := stepX_op_skip (P := C.P) (b := b) (t := t) (d := d) (k := kk) (cs := { c with mode := u } :: cs) (w := w) (ops := ops) (i := i) (rest := List.range' (i + 1) l.length) (by
        rw [ho]
        simp only [Option.map_some, Option.getD_some]
        exact wanted_sound hsr.tr hw)
      rw [ho] at this
      exact this
    unfold opsD at h
    cases hrc : isRcv o.op with
    | true =>
      rw [hrc] at h
      simp only [cond_true] at h
      split at h
      · rename_i hw
        split at h
        · rename_i s1 hp
          obtain ⟨y, u', hy, hm', hst⟩ := stepX_recover (C := C) hk hb (d := d) (k := kk) (c := c) (cs := cs) (w := w) (rest := List.range' (i + 1) l.length) ho (wanted_sound hsr.tr hw) hrc hm
          have hsr1 := put_SR hsr (Own.le_refl σ) hy hsr.sim hp
          exact (ih (i + 1) hl' σ s1 _ _ w _ u' hsr1 hm' h).of_steps (.one hst) (Grw.refl σ w)
        · cases h
      · rename_i hw
        split at h
        · rename_i s1 hp
          exact skip s1 hp hw h
        · cases h
      · cases h
    | false =>
      rw [hrc] at h
      simp only [cond_false] at h
      -- one operation, then the rest
      have one : ∀ e1 s1, opsA C R ops.toList [o] s = .ok e1 s1 → ∀ k2, (e1 = .nrm → k2 = .inRegion ops (List.range' (i + 1) l.length) :: kk) →
          Out G C σ w (lone (FrX b t d (.inRegion ops (i :: List.range' (i + 1) l.length) :: kk)) ({ c with mode := u } :: cs) w) b k2 ({ c with mode := u } :: cs) e1 s1 := by
        intro e1 s1 h1 k2 hk2
        unfold opsA at h1
        split at h1
        · rename_i hw
          refine op_next hC hR hsr (fun _ => hb) ho (wanted_sound hsr.tr hw) h1 fun σ1 s2 t1 d1 w1 hsr1 h2 => ?_
          cases h2
          rw [hk2 rfl]
          exact .nrm hsr1 (.refl _ _)
        · rename_i hw
          simp only [St.thenPut] at h1
          split at h1
          · rename_i s2 hp
            cases h1
            rw [hk2 rfl]
            have hsr1 := put_SR (y := undef) hsr (Own.le_refl σ) (.tup' (LR.nil σ)) hsr.sim hp
            refine .of_steps (.one ?_) (Grw.refl σ w) (.nrm hsr1 (.refl _ _))
            have := stepX_op_skip (P := C.P) (b := b) (t := t) (d := d) (k := kk) (cs := { c with mode := u } :: cs) (w := w) (ops := ops) (i := i) (rest := List.range' (i + 1) l.length) (by
              rw [ho]
              simp only [Option.map_some, Option.getD_some]
              exact wanted_sound hsr.tr hw)
            rw [ho] at this
            exact this
          · cases h1
        · cases h1
      split at h
      · rename_i s1 h1
        have o1 := one _ _ h1 _ (fun _ => rfl)
        obtain ⟨σ1, t1, d1, w1, q1, q2, q3⟩ := o1
        exact (ih (i + 1) hl' σ1 s1 t1 d1 w1 p u q1 (hm.mono q2.le) h).of_steps q3 q2
      · rename_i e1 s1 hne h1
        cases h
        have o1 := one _ _ h1 kk (fun e => absurd e (by
          rintro rfl
          exact hne rfl))
        exact o1.toD hm
      · cases h

theorem OutD.andThen {C : Cfg} {σ : Own} {w : World} {m : Machine} {b : Frame} {k k' : List Item} {c : Frame} {cs : List Frame} {e : Ex} {s1 s' : St} {p1 p' : PM} (o : OutD G C σ w m b k c cs .nrm s1 p1)
    (h : ∀ σ1 t1 d1 w1 u1, SR G C σ1 s1 t1 d1 w1 → MR σ1 p1 u1 → OutD G C σ1 w1 (lone (FrX b t1 d1 k) ({ c with mode := u1 } :: cs) w1) b k' c cs e s' p') : OutD G C σ w m b k' c cs e s' p' := by
  obtain ⟨σ1, t1, d1, w1, u1, h1, h2, h3, h4⟩ := o
  exact (h σ1 t1 d1 w1 u1 h1 h3).of_steps h4 h2
theorem OutD.pass {C : Cfg} {σ : Own} {w : World} {m : Machine} {b : Frame} {x : Item} {k : List Item} {c : Frame} {cs : List Frame} {e : Ex} {s' : St} {p : PM} (hx : ∀ id, exitTo id (x :: k) = exitTo id k) (he : e ≠ .nrm) (o : OutD G C σ w m b (x :: k) c cs e s' p) : OutD G C σ w m b k c cs e s' p := by
  obtain ⟨σ', t', d', w', u', h1, h2, h3, h4⟩ := o
  obtain ⟨_, _, _, _, q1, q2, q3⟩ := Out.pass hx he (⟨σ', t', d', w', h1, h2, h4⟩ : Out G C σ w m b (x :: k) ({ c with mode := u' } :: cs) e s')
  refine ⟨σ', t', d', w', u', h1, h2, h3, ?_⟩
  cases e with
  | nrm => exact absurd rfl he
  | exit id => obtain ⟨k0, e, q⟩ := h4; exact ⟨k0, e.trans (hx id), q⟩
  | ret => exact h4
  | pan v => exact h4

theorem codeD_sound {C : Cfg} (hC : CfgOk C) {E : Evs} (hE : EvOk C E) {b : Frame} (hb : b.roundOf = none) (hk : b.kind = .deferred) {c : Frame} {cs : List Frame} (cd : Code) :
    ∀ {s : St} {p : PM} {e : Ex} {s' : St} {p' : PM}, codeD C E cd s p = .ok e s' p' → ∀ {k : List Item} {σ : Own} {t : Array Value} {d : List Deferred} {w : World} {u : FrameMode}, SR G C σ s t d w → MR σ p u →
      OutD G C σ w (lone (FrX b t d (.code cd :: k)) ({ c with mode := u } :: cs) w) b k c cs e s' p' := by
  have base : ∀ (cd : Code) {s : St} {p : PM} {e : Ex} {s' : St} {p' : PM}, (match E.code false cd s with | .ok e s' => ResD.ok e s' p | .err => .err) = .ok e s' p' → ∀ {k : List Item} {σ : Own} {t : Array Value} {d : List Deferred} {w : World} {u : FrameMode}, SR G C σ s t d w → MR σ p u →
      OutD G C σ w (lone (FrX b t d (.code cd :: k)) ({ c with mode := u } :: cs) w) b k c cs e s' p' := by
    intro cd s p e s' p' h k σ t d w u hsr hm
    split at h
    · rename_i e1 s1 h1
      cases h
      exact ((hE.code _ _ _ _ _ h1 G b k _ σ t d w (fun _ => hb) hsr).1).toD hm
    · cases h
  induction cd with
  | seq x y ihx ihy =>
    intro s p e s' p' h k σ t d w u hsr hm
    simp only [codeD] at h
    split at h
    · rename_i s1 p1 h1
      refine OutD.of_steps (.one stepX_seq) (Grw.refl σ w) ((ihx h1 hsr hm).andThen fun σ1 t1 d1 w1 u1 hsr1 hm1 => ?_)
      exact ihy h hsr1 hm1
    · rename_i hn
      refine OutD.of_steps (.one stepX_seq) (Grw.refl σ w) ((ihx h hsr hm).pass (fun _ => rfl) (fun e => hn s' p' (by rw [h, e])))
  | region id ops dr =>
    intro s p e s' p' h k σ t d w u hsr hm
    cases dr with
    | false =>
      simp only [codeD] at h
      have hR : RecOk C (E.rec' false) := ⟨hE.call, hE.round⟩
      have := opsD_sound hC hR hb hk ops (kk := k) (c := c) (cs := cs) ops.toList 0 rfl σ s t d w p u hsr hm h
      rw [Array.length_toList, ← List.range_eq_range'] at this
      exact this.of_steps (.one stepX_region) (Grw.refl σ w)
    | true => intros; exact base _ h hsr hm
  | _ => intro s p e s' p' h k σ t d w u hsr hm; exact base _ h hsr hm

theorem argsT_TR {σ : Own} {nt : Nat} : ∀ (l : List AV) (i : Nat) (T : Tm) (t : Array Value) (ys : List Value), TR σ nt T t → LR σ l ys → i + l.length ≤ nt → (∀ x, i ≤ x → T.at x = .junk) →
    (∀ x, i ≤ x → t.getD x undef = undef) → ∃ t' : Array Value, TR σ nt (argsT l i T) t' ∧ (∀ x, t'.getD x undef = if i ≤ x ∧ x < i + ys.length then ys.getD (x - i) undef else t.getD x undef)
  | [], i, T, t, ys, h, hl, _, _, _ => by
    rw [hl.unnil]
    exact ⟨t, h, fun x => by simp; omega⟩
  | v :: l, i, T, t, ys, h, hl, hi, h1, h2 => by
    obtain ⟨y, ys', rfl, hy, hl'⟩ := hl.uncons
    have hlt : i < nt := by simp at hi; omega
    have h' := h.put hy hlt
    obtain ⟨t', k1, k2⟩ := argsT_TR l (i + 1) (Tr.setN v T i) (t.setIfInBounds i y) ys' h' hl' (by simp at hi; omega) (fun x hx => by rw [Tm.at_set, if_neg (by omega)]; exact h1 x (by omega))
      (fun x hx => by
        have := h2 x (by omega)
        rw [Array.getD_eq_getD_getElem?] at this ⊢
        rw [Array.getElem?_setIfInBounds]
        rw [if_neg (by omega)]
        exact this)
    refine ⟨t', k1, fun x => ?_⟩
    rw [k2 x]
    have hget : (t.setIfInBounds i y).getD x undef = if x = i then y else t.getD x undef := by
      rw [Array.getD_eq_getD_getElem?, Array.getElem?_setIfInBounds, Array.getD_eq_getD_getElem?]
      have : i < t.size := by rw [h.1]; exact hlt
      by_cases e : i = x
      · subst e; simp [this]
      · simp [e, Ne.symm e]
    rw [hget]
    by_cases e : x = i
    · subst e
      rw [if_neg (by omega), if_pos rfl, if_pos (by simp)]
      simp
    · by_cases e2 : i + 1 ≤ x ∧ x < i + 1 + ys'.length
      · rw [if_pos e2, if_pos (by simp; omega)]
        have : x - i = (x - (i + 1)) + 1 := by omega
        rw [this]; simp
      · rw [if_neg e2, if_neg e, if_neg (by simp; omega)]

def b0 (f : FuncId) (kind : CallKind) : Frame := { fn := f, tmps := #[], todo := [], defers := [], mode := .run, kind := kind, roundOf := none }
/-- The frame of a call. -/
theorem enter_SR {C : Cfg} {σ : Own} {H : AH} {w : World} (hg : GlOk C σ) (hs : Sim G σ H w) {f : FuncId} {fn : Func} {body : Code} (hf : C.P.funcs[f]? = some fn) (hb : fn.body = some body) {args : List AV} {ys : Array Value} (hl : LR σ args ys.toList) (hn : args.length ≤ fn.ntmps) (kind : CallKind) :
    ∃ t, Frame.enter C.P f ys kind = FrX (b0 f kind) t [] [.code body] ∧ SR G C σ ⟨fn.ntmps, argsT args 0 .leaf, [], H⟩ t [] w := by
  have hsz : ys.size = args.length := by have := hl.1; simp at this; omega
  refine ⟨ys ++ Array.replicate (fn.ntmps - ys.size) undef, by simp [Frame.enter, FrX, b0, hf, hb], hg, ?_, trivial, hs⟩
  have h0 : TR σ fn.ntmps .leaf (Array.replicate fn.ntmps undef) := by
    refine ⟨by simp, fun x => ?_⟩
    have : Tm.at (.leaf : Tm) x = .junk := by unfold Tm.at; rw [Tr.get_leaf]
    rw [this]
    exact .junk _
  obtain ⟨t', k1, k2⟩ := argsT_TR args 0 .leaf _ ys.toList h0 hl (by omega) (fun x _ => by unfold Tm.at; rw [Tr.get_leaf]) (fun x _ => by
    rw [Array.getD_eq_getD_getElem?, Array.getElem?_replicate]; split <;> rfl)
  refine ⟨by simp; omega, fun x => ?_⟩
  have := k1.2 x
  rw [k2 x] at this
  have hge : (ys ++ Array.replicate (fn.ntmps - ys.size) undef).getD x undef = if 0 ≤ x ∧ x < 0 + ys.toList.length then ys.toList.getD (x - 0) undef else (Array.replicate fn.ntmps undef).getD x undef := by
    rw [Array.getD_eq_getD_getElem?, Array.getElem?_append]
    by_cases e : x < ys.size
    · rw [if_pos e, if_pos (by simp; exact e)]
      simp [e]
    · rw [if_neg e, if_neg (by simp; omega)]
      rw [Array.getElem?_replicate, Array.getD_eq_getD_getElem?, Array.getElem?_replicate]
      split <;> split <;> rfl
  rw [hge]
  exact this
end Go.AM
namespace Go.AM
open Go
variable {G : Gh}

theorem DL.nil_inv {σ : Own} {d : List Deferred} (h : DL σ [] d) : d = [] := by cases d with | nil => rfl | cons _ _ => exact h.elim

theorem dcall_sound {C : Cfg} (hC : CfgOk C) {E : Evs} (hE : EvOk C E) {f : FuncId} {args : List AV} {H H' : AH} {p p' : PM} (h : dcallA C E f args H p = some (H', p')) :
    (∃ fn body, C.P.funcs[f]? = some fn ∧ fn.body = some body) ∧ ∀ (σ : Own) (w : World) (ys : Array Value) (c : Frame) (cs : List Frame) (u : FrameMode), GlOk C σ → Sim G σ H w → LR σ args ys.toList → MR σ p u →
      ∃ σ' w' u', Sim G σ' H' w' ∧ Grw σ σ' w w' ∧ MR σ' p' u' ∧ Steps C.P (lone (Frame.enter C.P f ys .deferred) ({ c with mode := u } :: cs) w) (lone { c with mode := settle u' } cs w') := by
  unfold dcallA at h
  split at h
  · cases h
  · rename_i fn hf
    split at h
    · cases h
    · rename_i body hb
      refine ⟨⟨fn, body, hf, hb⟩, ?_⟩
      intro σ w ys c cs u hg hs hl hm
      obtain ⟨hn, h⟩ := bif_some h
      split at h
      · rename_i e s p1 hcd
        obtain ⟨t, he, hsr⟩ := enter_SR (w := w) hg hs hf hb hl (by simpa using hn) .deferred
        rw [he]
        obtain ⟨σ', t', d', w', u', q1, q2, q3, q4⟩ := codeD_sound hC hE (b := b0 f .deferred) rfl rfl (c := c) (cs := cs) body hcd (k := []) hsr hm
        have fin : ∀ todo, Steps C.P (lone { FrX (b0 f .deferred) t' d' todo with mode := .returning } ({ c with mode := u' } :: cs) w') (lone { c with mode := settle u' } cs w') → True := fun _ _ => trivial
        clear fin
        have leave : s.dfr = [] → ∀ vs, resA C.P s fn.results.toList = some vs → ∀ todo, Steps C.P (lone { FrX (b0 f .deferred) t' d' todo with mode := .returning } ({ c with mode := u' } :: cs) w') (lone { c with mode := settle u' } cs w') := by
          intro hd vs hvs todo
          have hdr := q1.dr
          rw [hd] at hdr
          have := DL.nil_inv hdr
          subst this
          obtain ⟨y, r1, r2⟩ := results_sound q1.sim q1.tr hvs
          refine .one ?_
          exact step_going_returned (P := C.P) (fr := { FrX (b0 f .deferred) t' [] todo with mode := .returning }) (c := { c with mode := u' }) (cs := cs) (v := y) rfl ⟨rfl, rfl, fn, hf, r1⟩
        split at h
        · rename_i vs hd hvs
          cases h
          exact ⟨σ', w', u', q1.sim, q2, q3, Steps.trans q4 (.head (stepX_end rfl) (leave hd vs hvs []))⟩
        · rename_i vs hd hvs
          cases h
          obtain ⟨k0, q4⟩ := q4
          exact ⟨σ', w', u', q1.sim, q2, q3, Steps.trans q4 (.head (stepX_ret rfl) (leave hd vs hvs _))⟩
        · cases h
      · cases h

theorem stepX_collected {P : Program} {b : Frame} {t : Array Value} {d : List Deferred} {todo : List Item} {u : FrameMode} {cs : List Frame} {w : World} {bb : Nat} (hu : u ≠ .run) (hb : w.heap[bb]? = some (.deferred (some []))) :
    step P (lone { FrX b t ({ target := .collected bb, args := #[] } :: d) todo with mode := u } cs w) = .next (lone { FrX b t d todo with mode := u } cs { w with heap := w.heap.setIfInBounds bb (.deferred none) }) := by
  have hx : (Instr.takeDeferred bb).run P w = .ok [] { w with heap := w.heap.setIfInBounds bb (.deferred none) } := by
    simp only [Instr.takeDeferred, Sem.run_bind, run_getObj_at hb (by simp), Result.andThen_ok, run_setObj_at _ hb (by simp), Sem.run_pure]
  refine step_lone_go ?_
  cases u with
  | run => exact absurd rfl hu
  | returning => simp [stepG, unwind, FrX, hx]
  | panicking ch => simp [stepG, unwind, FrX, hx]

/-- What leaving comes to. -/
def LeaveR (G : Gh) (C : Cfg) (f : FuncId) (σ : Own) (w : World) (m : Machine) (cs : List Frame) : CR → Prop
  | .ret v H' => ∃ σ' w' y fr, VR σ' v y ∧ Sim G σ' H' w' ∧ Grw σ σ' w w' ∧ Steps C.P m (lone fr cs w') ∧ fr.fn = f ∧ fr.leaving C.P w' (.returned y)
  | .pan v H' => ∃ σ' w' y fr, VR σ' v y ∧ Sim G σ' H' w' ∧ Grw σ σ' w w' ∧ Steps C.P m (lone fr cs w') ∧ fr.fn = f ∧ fr.leaving C.P w' (.panicked [{ v := y, recovered := false }])
  | .err => True
theorem LeaveR.of_steps {C : Cfg} {f : FuncId} {σ σ1 : Own} {w w1 : World} {m m1 : Machine} {cs : List Frame} {r : CR} (h : Steps C.P m m1) (g : Grw σ σ1 w w1) (o : LeaveR G C f σ1 w1 m1 cs r) : LeaveR G C f σ w m cs r := by
  cases r with
  | ret v H => obtain ⟨σ', w', y, fr, h1, h2, h3, h4, h5, h6⟩ := o; exact ⟨σ', w', y, fr, h1, h2, g.trans h3, h.trans h4, h5, h6⟩
  | pan v H => obtain ⟨σ', w', y, fr, h1, h2, h3, h4, h5, h6⟩ := o; exact ⟨σ', w', y, fr, h1, h2, g.trans h3, h.trans h4, h5, h6⟩
  | err => trivial

def settled : PM → Prop
  | some (_, true) => False
  | _ => True
theorem settled_settle (p : PM) : settled (settleA p) := by
  match p with
  | none => trivial
  | some (_, true) => trivial
  | some (_, false) => trivial

theorem leave_sound {C : Cfg} (hC : CfgOk C) {E : Evs} (hE : EvOk C E) {f : FuncId} {fn : Func} (hf : C.P.funcs[f]? = some fn) {cs : List Frame} {todo : List Item} : ∀ (l : List ADef) (s : St) (p : PM), settled p →
    ∀ (σ : Own) (t : Array Value) (d : List Deferred) (w : World) (u : FrameMode), DL σ l d → GlOk C σ → TR σ s.nt s.T t → Sim G σ s.H w → MR σ p u →
      LeaveR G C f σ w (lone { FrX (b0 f .normal) t d todo with mode := u } cs w) cs (leaveA C E fn l s p)
  | [], s, none, _, σ, t, d, w, u, hd, hg, ht, hs, hm => by
    have := hd.nil_inv
    subst this
    simp only [leaveA]
    split
    · rename_i vs hvs
      obtain ⟨y, h1, h2⟩ := results_sound hs ht hvs
      exact ⟨σ, w, y, _, h2, hs, Grw.refl σ w, .refl _ _, rfl, hm, rfl, rfl, fn, hf, h1⟩
    · trivial
  | [], s, some (v, r), hp, σ, t, d, w, u, hd, hg, ht, hs, hm => by
    have := hd.nil_inv
    subst this
    cases r with
    | true => exact hp.elim
    | false =>
      obtain ⟨y, h1, h2⟩ := hm
      simp only [leaveA]
      exact ⟨σ, w, y, _, h1, hs, Grw.refl σ w, .refl _ _, rfl, h2, rfl, fn, hf⟩
  | .coll id :: l, s, p, hp, σ, t, d, w, u, hd, hg, ht, hs, hm => by
    cases d with
    | nil => exact hd.elim
    | cons x d =>
      obtain ⟨⟨bb, r, rfl, r1, r2⟩, hd⟩ := hd
      simp only [leaveA]
      split
      · rename_i hgt
        obtain ⟨k0, o, q1, q2, q3⟩ := hs.blk bb r r1
        rw [r2, hgt] at q1
        cases q1
        have ho : o = .deferred (some []) := q3
        subst ho
        obtain ⟨s1, g1⟩ := hs.turnObj r1 (k := .dlist false) (by rw [r2]; exact hgt) (fun _ _ => trivial) (.dlist true) (.deferred none) rfl
        rw [r2] at s1
        have ih := leave_sound hC hE hf (cs := cs) (todo := todo) l (s.setH (s.H.put id (.dlist true))) p hp σ t d _ u hd hg (by cases s; exact ht) (by cases s; exact s1) hm
        exact ih.of_steps (.one (stepX_collected hm.ne_run q2)) g1
      · trivial
  | .call f2 args :: l, s, p, hp, σ, t, d, w, u, hd, hg, ht, hs, hm => by
    cases d with
    | nil => exact hd.elim
    | cons x d =>
      obtain ⟨⟨cap, xs, rfl, hl⟩, hd⟩ := hd
      simp only [leaveA]
      split
      · rename_i H2 p2 hdc
        obtain ⟨⟨fn2, body2, hf2, hb2⟩, hds⟩ := dcall_sound hC hE hdc
        have hi : (invoke (.fn (.func f2) cap) xs).run C.P w = .ok (.enter f2 (xs ++ cap)) w := by
          simp [invoke, callFunc, hf2, hC.names f2 fn2 hf2, hb2]
        have hstep := step_defer (P := C.P) (fr := { FrX (b0 f .normal) t ({ target := .fn (.func f2) cap, args := xs } :: d) todo with mode := u }) (cs := cs) (w := w) hm.ne_run rfl rfl hi
        obtain ⟨σ1, w1, u1, z1, z2, z3, z4⟩ := hds σ w (xs ++ cap) { FrX (b0 f .normal) t d todo with mode := u } cs u hg hs hl hm
        have ih := leave_sound hC hE hf (cs := cs) (todo := todo) l (s.setH H2) (settleA p2) (settled_settle p2) σ1 t d w1 (settle u1) (hd.mono z2.le) (hg.mono z2.le) (by cases s; exact ht.mono z2.le) (by cases s; exact z1) z3.settle
        exact ih.of_steps (Steps.head hstep z4) z2
      · trivial

theorem callE_sound {C : Cfg} (hC : CfgOk C) {E : Evs} (hE : EvOk C E) (f : FuncId) (args : List AV) (H : AH) : CallR C f args H (callE C E f args H) := by
  have key : ∀ (G : Gh) σ w ys cs, GlOk C σ → Sim G σ H w → LR σ args ys.toList → LeaveR G C f σ w (lone (Frame.enter C.P f ys .normal) cs w) cs (callE C E f args H) := by
    intro G σ w ys cs hg hs hl
    unfold callE
    split
    · trivial
    · rename_i fn hf
      split
      · trivial
      · rename_i body hb
        cases hn : Nat.ble args.length fn.ntmps with
        | false => trivial
        | true =>
          simp only [cond_true]
          obtain ⟨t, he, hsr⟩ := enter_SR (w := w) hg hs hf hb hl (by simpa using hn) .normal
          rw [he]
          split
          · rename_i s h
            obtain ⟨σ1, t1, d1, w1, q1, q2, q3⟩ := (hE.code _ _ _ _ _ h G (b0 f .normal) [] cs σ t [] w (fun _ => rfl) hsr).1
            exact (leave_sound hC hE hf (todo := []) s.dfr s none trivial σ1 t1 d1 w1 .returning q1.dr q1.gl q1.tr q1.sim rfl).of_steps (Steps.trans q3 (.one (stepX_end rfl))) q2
          · rename_i s h
            obtain ⟨σ1, t1, d1, w1, q1, q2, k0, q3⟩ := (hE.code _ _ _ _ _ h G (b0 f .normal) [] cs σ t [] w (fun _ => rfl) hsr).1
            exact (leave_sound hC hE hf (todo := _) s.dfr s none trivial σ1 t1 d1 w1 .returning q1.dr q1.gl q1.tr q1.sim rfl).of_steps (Steps.trans q3 (.one (stepX_ret rfl))) q2
          · rename_i v s h
            obtain ⟨σ1, t1, d1, w1, q1, q2, todo, y, hv, q3⟩ := (hE.code _ _ _ _ _ h G (b0 f .normal) [] cs σ t [] w (fun _ => rfl) hsr).1
            exact (leave_sound hC hE hf (todo := todo) s.dfr s (some (v, false)) trivial σ1 t1 d1 w1 _ q1.dr q1.gl q1.tr q1.sim ⟨y, hv, rfl⟩).of_steps q3 q2
          · trivial
  generalize callE C E f args H = r at key
  cases r with
  | ret v H' => exact key
  | pan v H' => exact key
  | err => trivial
end Go.AM
namespace Go.AM
open Go
variable {G : Gh}

theorem zipT_TR {σ : Own} {nt : Nat} : ∀ (ps : List Tmp) (l : List AV) (T T' : Tm) (t : Array Value) (ys : List Value), zipT nt ps l T = some T' → TR σ nt T t → LR σ l ys →
    ps.length = ys.length ∧ TR σ nt T' ((ps.zip ys).foldl (fun tmps (p : Tmp × Value) => tmps.setIfInBounds p.1 p.2) t)
  | [], [], T, T', t, ys, h, ht, hl => by
    cases h
    rw [hl.unnil]
    exact ⟨rfl, ht⟩
  | p :: ps, v :: l, T, T', t, ys, h, ht, hl => by
    obtain ⟨y, ys', rfl, hy, hl'⟩ := hl.uncons
    simp only [zipT] at h
    obtain ⟨hb, h⟩ := bif_some h
    obtain ⟨h1, h2⟩ := zipT_TR ps l _ T' (t.setIfInBounds p y) ys' h (ht.put hy (by simpa [Nat.blt_eq] using hb)) hl'
    exact ⟨by simp [h1], h2⟩
  | [], _ :: _, _, _, _, _, h, _, _ => by cases h
  | _ :: _, [], _, _, _, _, h, _, _ => by cases h

theorem loop_at {σ : Own} {H : AH} {w : World} (hs : Sim G σ H w) {id st f nt dl : Nat} {pe : Option Code} {T : Tm} {ps : Array Tmp} {a bd : Code} (hg : H.get id = some (.loop st pe f nt T ps a bd dl)) {b : Nat} {r : Own1} (hr : σ b = some r) (hid : r.id = id) :
    ∃ l : Loop, w.heap[b]? = some (.loop l) ∧ stateNo l.state = st ∧ l.pending = pe ∧ TR σ nt T l.tmps ∧ l.params = ps ∧ l.assign = a ∧ l.body = bd ∧ (∃ r', σ l.defers = some r' ∧ r'.id = dl) := by
  obtain ⟨k, o, h1, h2, h3⟩ := hs.blk b r hr
  rw [hid, hg] at h1
  cases h1
  obtain ⟨l, rfl, h4⟩ := h3
  exact ⟨l, h2, h4⟩

theorem stepX_begin {P : Program} {b : Frame} {bb : Nat} (hr : b.roundOf = some bb) {t : Array Value} {d : List Deferred} {k : List Item} {cs : List Frame} {w : World} {l : Loop} (hl : w.heap[bb]? = some (.loop l)) (hs : l.state = .ready) :
    step P (lone (FrX b t d (.beginRound :: k)) cs w) = .next (lone (FrX b t d k) cs { w with heap := w.heap.setIfInBounds bb (.loop { l with state := .busy }) }) := by
  have hx : (Instr.beginRound bb).run P w = .ok () { w with heap := w.heap.setIfInBounds bb (.loop { l with state := .busy }) } := by
    simp only [Instr.beginRound, Instr.getLoop, Sem.run_bind, run_getObj_at hl (by simp), Result.andThen_ok, Sem.run_pure, run_setObj_at _ hl (by simp), hs]
  refine step_lone_go ?_
  simp [stepG, stepG.exec, FrX, hr, stepG.apply, hx, Frame.finish]

theorem endRound_run {P : Program} {w : World} {bb : Nat} {l : Loop} (hl : w.heap[bb]? = some (.loop l)) (j : Option Code) : (Instr.endRound bb j).run P w =
    .ok (.bool j.isNone) { w with heap := w.heap.setIfInBounds bb (.loop { l with state := if j.isNone then .ready else .done, pending := j }) } := by
  simp only [Instr.endRound, Instr.getLoop, Sem.run_bind, run_getObj_at hl (by simp), Result.andThen_ok, Sem.run_pure, run_setObj_at _ hl (by simp)]

theorem stepX_leaves {P : Program} {b : Frame} {bb : Nat} (hr : b.roundOf = some bb) (hk : b.kind = .normal) {t : Array Value} {d : List Deferred} {c : Frame} {cs : List Frame} {w : World} {l : Loop} (hl : w.heap[bb]? = some (.loop l)) {todo : List Item} {j : Option Code}
    (ht : (todo = [] ∧ j = none) ∨ (∃ k, todo = .code .ret :: k ∧ j = some .ret) ∨ (∃ k id, todo = .code (.exit id) :: k ∧ exitTo id k = none ∧ j = some (.exit id))) :
    step P (lone (FrX b t d todo) (c :: cs) w) = .next (lone (c.finish (.bool j.isNone)) cs { w with heap := w.heap.setIfInBounds bb (.loop { l with state := if j.isNone then .ready else .done, pending := j }) }) := by
  have hx := endRound_run (P := P) hl j
  refine step_lone_go ?_
  rcases ht with ⟨rfl, rfl⟩ | ⟨k, rfl, rfl⟩ | ⟨k, id, rfl, he, rfl⟩
  · simp only [stepG, stepG.exec, FrX, hr, Sem.runT_eq, hx, GStep.bare_after]
    simp [doReturn, hk]
  · simp only [stepG, stepG.exec, FrX, hr, Sem.runT_eq, hx, GStep.bare_after]
    simp [doReturn, hk]
  · simp only [stepG, stepG.exec, FrX, hr, Sem.runT_eq, hx, GStep.bare_after, he, Option.elim]
    simp [doReturn, hk]

theorem roundE_sound {C : Cfg} {E : Evs} (hE : EvOk C E) (id : Nat) (args : List AV) (H : AH) : RoundR C id args H (roundE E id args H) := by
  unfold roundE
  split
  · rename_i pe0 f0 nt T ps asg body dl0 hgt
    split
    · rename_i T1 hz
      split
      · rename_i s1 h1
        split
        · rename_i pe1 f1 nt1 T2 ps1 a1 b1 dl1 hg1 hd1
          split
          · rename_i e s3 h3
            -- what all ways share
            have key : ∀ (G : Gh) (σ : Own) (w : World) (b : Nat) (r : Own1) (ys : Array Value) (c : Frame) (cs : List Frame), GlOk C σ → Sim G σ H w → σ b = some r → r.id = id → LR σ args ys.toList →
                ∃ l f tm asg' body' σ3 t3 d3 w3, (Instr.yield b ys).run C.P w = .ok (.round l f tm asg' body') w ∧ SR G C σ3 s3 t3 d3 w3 ∧ Grw σ σ3 w w3 ∧
                  ∃ bf : Frame, bf.roundOf = some b ∧ bf.kind = .normal ∧ ArrX C.P (lone (Frame.round l f tm asg' body' .normal) (c :: cs) w) bf [] (c :: cs) σ3 e t3 d3 w3 := by
              intro G σ w b r ys c cs hg hs hr hid hl
              obtain ⟨l, l1, l2, l3, l4, l5, l6, l7, l8⟩ := loop_at hs hgt hr hid
              obtain ⟨z1, z2⟩ := zipT_TR ps.toList args T T1 l.tmps ys.toList hz l4 hl
              have hyield : (Instr.yield b ys).run C.P w = .ok (.round b l.fn ((l.params.zip ys).foldl (fun tmps (t, a) => tmps.setIfInBounds t a) l.tmps) l.assign l.body) w := by
                have hne : ¬ (ys.size ≠ l.params.size) := by rw [l5]; simp at z1; omega
                simp only [Instr.yield, Instr.getLoop, Sem.run_bind, run_getObj_at l1 (by simp), Result.andThen_ok, Sem.run_pure, if_neg hne]
              have htm : (l.params.zip ys).foldl (fun tmps (t, a) => tmps.setIfInBounds t a) l.tmps = (ps.toList.zip ys.toList).foldl (fun tmps (p : Tmp × Value) => tmps.setIfInBounds p.1 p.2) l.tmps := by
                rw [l5, ← Array.foldl_toList, Array.toList_zip]
              rw [htm] at hyield
              generalize (ps.toList.zip ys.toList).foldl (fun tmps (p : Tmp × Value) => tmps.setIfInBounds p.1 p.2) l.tmps = tm at z2 hyield
              let bf : Frame := { fn := l.fn, tmps := #[], todo := [], defers := [], mode := .run, kind := .normal, roundOf := some b }
              have hfr : Frame.round b l.fn tm l.assign l.body .normal = FrX bf tm [] [.code asg, .beginRound, .code body] := by
                simp [Frame.round, FrX, bf, l6, l7]
              have hsr0 : SR G C σ ⟨nt, T1, [], H⟩ tm [] w := ⟨hg, z2, trivial, hs⟩
              obtain ⟨σ1, t1, d1, w1, q1, q2, q3⟩ := (hE.code _ _ _ _ _ h1 G bf [.beginRound, .code body] (c :: cs) σ tm [] w (fun h => by cases h) hsr0).1
              obtain ⟨r1, p1, p2, _⟩ := q2.le b r hr
              have hid1 : r1.id = id := p2.trans hid
              obtain ⟨lo, m1, m2, m3, m4, m5, m6, m7, m8⟩ := loop_at q1.sim hg1 p1 hid1
              have hready : lo.state = .ready := by cases hh : lo.state <;> simp_all [stateNo]
              obtain ⟨s2, g2⟩ := q1.sim.turnObj p1 (k := .loop 0 pe1 f1 nt1 T2 ps1 a1 b1 dl1) (by rw [hid1]; exact hg1) (fun _ _ => trivial) (.loop 1 pe1 f1 nt1 T2 ps1 a1 b1 dl1) (.loop { lo with state := .busy }) ⟨_, rfl, rfl, m3, m4, m5, m6, m7, m8⟩
              rw [hid1] at s2
              have hsr2 := setH_SR q1 (Own.le_refl σ1) s2
              obtain ⟨σ3, t3, d3, w3, v1, v2, v3⟩ := (hE.code _ _ _ _ _ h3 G bf [] (c :: cs) σ1 t1 d1 _ (fun h => by cases h) hsr2).1
              refine ⟨b, l.fn, tm, l.assign, l.body, σ3, t3, d3, w3, hyield, v1, (q2.trans g2).trans v2, bf, rfl, rfl, ?_⟩
              rw [hfr]
              exact v3.of_steps (Steps.trans q3 (.one (stepX_begin rfl m1 hready)))
            split
            · rename_i st3 pe3 f3 nt3 T3 ps3 a3 b3 dl3 hj hd3 hg3
              intro G σ w b r ys c cs hg hs hr hid hl
              obtain ⟨l, f, tm, asg', body', σ3, t3, d3, w3, k1, k2, k3, bf, k4, k5, k6⟩ := key G σ w b r ys c cs hg hs hr hid hl
              obtain ⟨r3, p1, p2, _⟩ := k3.le b r hr
              have hid3 : r3.id = id := p2.trans hid
              obtain ⟨lo, m1, m2, m3, m4, m5, m6, m7, m8⟩ := loop_at k2.sim hg3 p1 hid3
              have he : e = .nrm := by cases e <;> simp [jumpOf] at hj; rfl
              subst he
              obtain ⟨s4, g4⟩ := k2.sim.turnObj p1 (k := .loop st3 pe3 f3 nt3 T3 ps3 a3 b3 dl3) (by rw [hid3]; exact hg3) (fun _ _ => trivial) (.loop 0 none f3 nt3 T3 ps3 a3 b3 dl3) (.loop { lo with state := if (none : Option Code).isNone then .ready else .done, pending := none }) ⟨_, rfl, rfl, rfl, m4, m5, m6, m7, m8⟩
              rw [hid3] at s4
              exact ⟨l, f, tm, asg', body', σ3, _, _, k1, .bool true, s4, k3.trans g4, Steps.trans k6 (.one (stepX_leaves k4 k5 m1 (.inl ⟨rfl, rfl⟩)))⟩
            · rename_i j st3 pe3 f3 nt3 T3 ps3 a3 b3 dl3 hj hd3 hg3
              intro G σ w b r ys c cs hg hs hr hid hl
              obtain ⟨l, f, tm, asg', body', σ3, t3, d3, w3, k1, k2, k3, bf, k4, k5, k6⟩ := key G σ w b r ys c cs hg hs hr hid hl
              obtain ⟨r3, p1, p2, _⟩ := k3.le b r hr
              have hid3 : r3.id = id := p2.trans hid
              obtain ⟨lo, m1, m2, m3, m4, m5, m6, m7, m8⟩ := loop_at k2.sim hg3 p1 hid3
              obtain ⟨s4, g4⟩ := k2.sim.turnObj p1 (k := .loop st3 pe3 f3 nt3 T3 ps3 a3 b3 dl3) (by rw [hid3]; exact hg3) (fun _ _ => trivial) (.loop 2 (some j) f3 nt3 T3 ps3 a3 b3 dl3) (.loop { lo with state := if (some j).isNone then .ready else .done, pending := some j }) ⟨_, rfl, rfl, rfl, m4, m5, m6, m7, m8⟩
              rw [hid3] at s4
              refine ⟨l, f, tm, asg', body', σ3, _, _, k1, .bool false, s4, k3.trans g4, ?_⟩
              cases e with
              | nrm => simp [jumpOf] at hj
              | exit i =>
                simp only [jumpOf, Option.some.injEq] at hj
                subst hj
                obtain ⟨k0, z1, z2⟩ := k6
                exact Steps.trans z2 (.one (stepX_leaves k4 k5 m1 (.inr (.inr ⟨k0, i, rfl, z1, rfl⟩))))
              | ret =>
                simp only [jumpOf, Option.some.injEq] at hj
                subst hj
                obtain ⟨k0, z2⟩ := k6
                exact Steps.trans z2 (.one (stepX_leaves k4 k5 m1 (.inr (.inl ⟨k0, rfl, rfl⟩))))
              | pan v => simp [jumpOf] at hj
            · trivial
          · trivial
        · trivial
      · trivial
    · trivial
  · trivial

/-- THE EVALUATOR IS SOUND, but for the regions that draw. -/
theorem evs_ok {C : Cfg} (hC : CfgOk C) (hD : DrawOk C) : ∀ n, EvOk C (evs C n)
  | 0 => ⟨fun _ _ _ _ _ h => (by cases h), fun _ _ _ => trivial, fun _ _ _ => trivial⟩
  | n + 1 =>
    have hE := evs_ok hC hD n
    ⟨fun _ _ _ _ _ h _ _ _ _ _ _ _ _ hb hsr => code_sound hC hD hE h hb hsr, callE_sound hC hE, roundE_sound hE⟩
end Go.AM
