/-
  The evaluator made for the kernel is sound; calls that are known. By an AI agent.
-/
import Derived.Test.YtlbpfpffifppiaaGreatDoorAm7
import Derived.Test.YtlbpfpffifppiaaGreatDoorAm6
import Derived.Test.YtlbpfpffifppiaaGreatDoorAm5
namespace Go.AM
open Go
variable {G : Gh}

/-! ### Slots -/
theorem Pa_of_succ (k m : Nat) : Pa.of (k + 1) (m + 1) = if Nat.beq (m % 2) 0 = true then .l (Pa.of k (m / 2)) else .r (Pa.of k (m / 2)) := by
  show Bool.rec (motive := fun _ => Pa) (.r (Pa.of k (m / 2))) (.l (Pa.of k (m / 2))) (Nat.beq (m % 2) 0) = _
  cases Nat.beq (m % 2) 0 <;> rfl
theorem Pa_of_zero (k : Nat) : Pa.of k 0 = .h := by cases k <;> rfl
theorem getA_of : ∀ (k n : Nat) (T : Tm), n ≤ k → getA (Pa.of k n) T = T.at n := by
  intro k
  have z : ∀ (k : Nat) (T : Tm), getA (Pa.of k 0) T = T.at 0 := by
    intro k T
    rw [Pa_of_zero]
    cases T with
    | leaf => rfl
    | node l v r => cases v <;> rfl
  induction k with
  | zero => intro n T h; obtain rfl : n = 0 := by omega
            exact z 0 T
  | succ k ih =>
    intro n T h
    cases n with
    | zero => exact z _ T
    | succ m =>
      rw [Pa_of_succ]
      have hm : m / 2 ≤ k := by omega
      cases T with
      | leaf => split <;> rfl
      | node l v r =>
        unfold Tm.at
        rw [Tr.get_succ]
        cases hb : Nat.beq (m % 2) 0 with
        | true => exact ih (m / 2) l hm
        | false => exact ih (m / 2) r hm
theorem getA_pa (n : Nat) (T : Tm) : getA (pa n) T = T.at n := getA_of (n + 1) n T (by omega)
theorem setA_of (x : AV) : ∀ (k n : Nat) (T : Tm), n < k → setA x (Pa.of k n) T = Tr.set x k T n := by
  intro k
  induction k with
  | zero => intro n T h; omega
  | succ k ih =>
    intro n T h
    cases n with
    | zero => rw [Pa_of_zero]; cases T <;> rfl
    | succ m =>
      rw [Pa_of_succ]
      have hm : m / 2 < k := by omega
      cases T with
      | leaf =>
        rw [Tr.set_leaf_succ]
        cases hb : Nat.beq (m % 2) 0 with
        | true => simp only [if_true, cond_true]; rw [← ih (m / 2) .leaf hm]; rfl
        | false => simp only [Bool.false_eq_true, if_false, cond_false]; rw [← ih (m / 2) .leaf hm]; rfl
      | node l v r =>
        rw [Tr.set_node_succ]
        cases hb : Nat.beq (m % 2) 0 with
        | true => simp only [if_true, cond_true]; rw [← ih (m / 2) l hm]; rfl
        | false => simp only [Bool.false_eq_true, if_false, cond_false]; rw [← ih (m / 2) r hm]; rfl
theorem setA_pa (x : AV) (n : Nat) (T : Tm) : setA x (pa n) T = Tr.setN x T n := setA_of x (n + 1) n T (by omega)

/-! ### Operands -/
def LRel (σ : Own) (ls : List Nat) (L : List AV) (t : Array Value) : Prop := ∀ u i, idxOf u ls = some i → VR σ (nthR i L) (t.getD u undef)
theorem LRel.mono {σ σ' : Own} (h : σ.le σ') {ls : List Nat} {L : List AV} {t : Array Value} (k : LRel σ ls L t) : LRel σ' ls L t := fun u i e => (k u i e).mono h

theorem rhoF_VR {C : Cfg} {σ : Own} {nt : Nat} {T : Tm} {t : Array Value} {ls : List Nat} {L : List AV} (hg : GlOk C σ) (h : TR σ nt T t) (hl : LRel σ ls L t) (x : Operand) : VR σ (rhoF C ls L T x) (evX t x) := by
  unfold rhoF opdK
  cases x with
  | tmp u =>
    simp only
    cases hi : idxOf u ls with
    | some i => exact hl u i hi
    | none => simp only [getA_pa]; exact h.2 u
  | const v => exact ofValue_VR σ v
  | global g =>
    simp only
    cases hgl : C.gl g with
    | zero => exact .junk _
    | succ n =>
      obtain ⟨r, h1, h2, h3⟩ := hg g n hgl
      exact .ptr g 0 (n + 1) g r h1 h2 h3
  | func f => exact .fn f [] [] #[] #[] rfl (fun i x h => by simp at h) rfl (fun i x h => by simp at h)
theorem opdsK_eq (C : Cfg) (ls : List Nat) (L : List AV) (T : Tm) : ∀ (l : List Operand), (opdsK C.gl ls l).f L T = l.map (rhoF C ls L T)
  | [] => rfl
  | x :: l => by rw [List.map_cons, ← opdsK_eq C ls L T l]; rfl

/-! ### Cases -/
theorem onBool_some {n : Option AV} {g : Bool → Option AV} {x v : AV} (hn : n = none) (h : onBool n g x = some v) : ∃ b, x = .bool b ∧ g b = some v := by
  subst hn; cases x <;> first | exact ⟨_, rfl, h⟩ | cases h
theorem onPtr_some {g : Nat → Nat → Nat → Option AV} {x v : AV} (h : onPtr none g x = some v) : ∃ a b c, x = .ptr a b c ∧ g a b c = some v := by
  cases x <;> first | exact ⟨_, _, _, rfl, h⟩ | cases h
theorem onStr_some {g : List Nat → Option AV} {x v : AV} (h : onStr none g x = some v) : ∃ s, x = .str s ∧ g s = some v := by
  cases x <;> first | exact ⟨_, rfl, h⟩ | cases h
theorem onTup_some {g : List AV → Option AV} {x v : AV} (h : onTup none g x = some v) : ∃ s, x = .tup s ∧ g s = some v := by
  cases x <;> first | exact ⟨_, rfl, h⟩ | cases h
theorem onSlc_some {z : Option AV} {g : Nat → Nat → Nat → Option Nat → Nat → Option AV} {x v : AV} (h : onSlc none z g x = some v) : (x = .nils ∧ z = some v) ∨ ∃ a b c d e, x = .slc a b c d e ∧ g a b c d e = some v := by
  cases x <;> first | exact .inr ⟨_, _, _, _, _, rfl, h⟩ | exact .inl ⟨rfl, h⟩ | cases h
theorem onNat_some {g : Nat → Option AV} {x v : AV} (h : onNat none g x = some v) : ∃ k n, x = .int k (.ofNat n) ∧ g n = some v := by
  cases x <;> try (cases h; done)
  rename_i k i
  cases i with
  | ofNat n => exact ⟨k, n, rfl, h⟩
  | negSucc n => cases h
theorem kindR_eq {a b : IntKind} (h : kindR a b = true) : a = b := by cases a <;> cases b <;> first | rfl | cases h
theorem int2_some {e : Option AV} {g : IntKind → Int → Int → AV} {x y v : AV} (h : int2 e g x y = some v) : e = some v ∨ ∃ k a b, x = .int k a ∧ y = .int k b ∧ v = g k a b := by
  cases x <;> try exact .inl h
  rename_i k a
  cases y <;> try exact .inl h
  rename_i k' b
  have h' : Bool.rec (motive := fun _ => Option AV) e (some (g k a b)) (kindR k k') = some v := h
  cases hk : kindR k k' with
  | false => rw [hk] at h'; exact .inl h'
  | true =>
    rw [hk] at h'
    have := kindR_eq hk
    subst this
    cases h'
    exact .inr ⟨k, a, b, rfl, rfl, rfl⟩

theorem genP_spec {C : Cfg} {op : Op} {ρ : Operand → AV} {H : AH} {v : AV} (h : genP C op ρ H = some v) : opA C ρ H op = .val v H := by
  unfold genP at h
  unfold opA
  cases hc : clsOf op with
  | pure =>
    rw [hc] at h
    simp only at h ⊢
    cases hp : pureA C ρ op with
    | some u => rw [hp] at h; cases h; rfl
    | none =>
      rw [hp] at h
      simp only at h ⊢
      split at h
      · simp only [h, retE]
      · cases h
  | read => rw [hc] at h; simp only at h ⊢; rw [h]; rfl
  | alloc => rw [hc] at h; cases h
  | eff => rw [hc] at h; cases h
theorem pure_val {C : Cfg} {op : Op} {ρ : Operand → AV} {H : AH} {v : AV} (hc : clsOf op = .pure) (h : pureA C ρ op = some v) : opA C ρ H op = .val v H := by
  unfold opA; rw [hc]; simp only; rw [h]
theorem read_val {C : Cfg} {op : Op} {ρ : Operand → AV} {H : AH} {v : AV} (hc : clsOf op = .read) (h : readA C ρ H op = some v) : opA C ρ H op = .val v H := by
  unfold opA; rw [hc]; simp only; rw [h]; rfl

theorem wrap64' {n : Nat} (h : Nat.ble n 9223372036854775807 = true) : wrapQ' .i64 (.ofNat n) = .ofNat n := by
  show cond (Nat.ble n 9223372036854775807) _ _ = _
  rw [h]; rfl
theorem is64_eq {k : IntKind} (h : is64 k = true) : k = .i64 := by cases k <;> first | rfl | cases h
theorem add_g (k : IntKind) (a b : Int) : natBin (fun m n => Bool.rec (motive := fun _ => AV) (.int k (wrapQ' k (a + b))) (.int k (.ofNat (Nat.add m n))) (Bool.rec (motive := fun _ => Bool) false (is64 k) (Nat.ble (Nat.add m n) 9223372036854775807))) (fun a b => .int k (wrapQ' k (a + b))) a b = .int k (wrapQ' k (a + b)) := by
  cases a with
  | negSucc m => rfl
  | ofNat m =>
    cases b with
    | negSucc n => rfl
    | ofNat n =>
      show Bool.rec (motive := fun _ => AV) _ _ (Bool.rec (motive := fun _ => Bool) false (is64 k) (Nat.ble (Nat.add m n) 9223372036854775807)) = _
      cases h1 : Nat.ble (Nat.add m n) 9223372036854775807 with
      | false => rfl
      | true =>
        cases h2 : is64 k with
        | false => rfl
        | true =>
          have := is64_eq h2; subst this
          show AV.int .i64 (.ofNat (m + n)) = .int .i64 (wrapQ' .i64 (.ofNat (m + n)))
          rw [wrap64' (n := m + n) h1]
theorem sub_g (k : IntKind) (a b : Int) : natBin (fun m n => Bool.rec (motive := fun _ => AV) (.int k (wrapQ' k (a - b))) (.int k (.ofNat (Nat.sub m n))) (Bool.rec (motive := fun _ => Bool) false (Bool.rec (motive := fun _ => Bool) false (is64 k) (Nat.ble (Nat.sub m n) 9223372036854775807)) (Nat.ble n m))) (fun a b => .int k (wrapQ' k (a - b))) a b = .int k (wrapQ' k (a - b)) := by
  cases a with
  | negSucc m => rfl
  | ofNat m =>
    cases b with
    | negSucc n => rfl
    | ofNat n =>
      show Bool.rec (motive := fun _ => AV) _ _ (Bool.rec (motive := fun _ => Bool) false (Bool.rec (motive := fun _ => Bool) false (is64 k) (Nat.ble (Nat.sub m n) 9223372036854775807)) (Nat.ble n m)) = _
      cases h0 : Nat.ble n m with
      | false => rfl
      | true =>
        cases h1 : Nat.ble (Nat.sub m n) 9223372036854775807 with
        | false => rfl
        | true =>
          cases h2 : is64 k with
          | false => rfl
          | true =>
            have := is64_eq h2; subst this
            have hle : n ≤ m := by simpa using h0
            have he : (Int.ofNat m - Int.ofNat n) = .ofNat (m - n) := by
              show ((m : Int) - (n : Int)) = ((m - n : Nat) : Int)
              omega
            show AV.int .i64 (.ofNat (m - n)) = .int .i64 (wrapQ' .i64 (Int.ofNat m - Int.ofNat n))
            rw [he, wrap64' (n := m - n) h1]
theorem kindEq_self (k : IntKind) : kindEq k k = true := by cases k <;> rfl

theorem bin_val {C : Cfg} {o : BinOp} {t z : TypeId} {x y : Operand} {ρ : Operand → AV} {H : AH} {k : IntKind} {a b : Int} {v : AV} (hx : ρ x = .int k a) (hy : ρ y = .int k b) (h : intOp o k a b = some v) (hs : o ≠ .shl) (hr : o ≠ .shr) : opA C ρ H (.binOp o t x y z) = .val v H := by
  refine pure_val rfl ?_
  show binOp C.P o t (isConst x) (isConst y) (ρ x) (ρ y) = some v
  rw [hx, hy]
  unfold binOp
  cases o <;> first | exact absurd rfl hs | exact absurd rfl hr | (simp only [kindEq_self, cond_true]; exact h)

theorem binK_spec {C : Cfg} {o : BinOp} {t z : TypeId} {x y : Operand} {ls : List Nat} {L : List AV} {T : Tm} {H : AH} {v : AV}
    (h : (binK o (fun L T H => genP C (.binOp o t x y z) (rhoF C ls L T) H) (opdK C.gl ls x) (opdK C.gl ls y)).f L T H = some v) : opA C (rhoF C ls L T) H (.binOp o t x y z) = .val v H := by
  unfold binK at h
  split at h
  all_goals first
    | exact genP_spec h
    | skip
  all_goals
    rcases int2_some h with h | ⟨k, a, b, hx, hy, hv⟩
    · exact genP_spec h
  · refine bin_val hx hy (by rw [hv, add_g]; rfl) (by simp) (by simp)
  · refine bin_val hx hy (by rw [hv, sub_g]; rfl) (by simp) (by simp)
  all_goals
    refine bin_val hx hy ?_ (by simp) (by simp)
    rw [hv]
    cases a <;> cases b <;> first | rfl | skip
  · rename_i m n
    show some (AV.bool (!Nat.beq m n)) = some (AV.bool (Bool.rec (motive := fun _ => Bool) true false (Nat.beq m n)))
    cases Nat.beq m n <;> rfl

theorem cellsAt_some {H : AH} {id : Nat} {g : List AV → TypeId → Nat → Nat → Option AV} {v : AV} (h : cellsAt H id none g = some v) : ∃ cs e ver fz, H.get id = some (.cells cs e ver fz) ∧ g cs e ver fz = some v := by
  obtain ⟨nx, t⟩ := H
  have h' : Option.rec (motive := fun _ => Option AV) none (fun k => ABlk.rec (motive := fun _ => Option AV) g (fun _ _ => none) (fun _ _ _ _ => none) (fun _ _ => none) (fun _ _ _ _ _ _ _ _ _ => none) (fun _ => none) k) (getB t id) = some v := h
  have hg : getB t id = (AH.mk nx t).get id := rfl
  rw [hg] at h'
  cases hk : (AH.mk nx t).get id with
  | none => rw [hk] at h'; cases h'
  | some k =>
    rw [hk] at h'
    cases k with
    | cells cs e ver fz => exact ⟨cs, e, ver, fz, rfl, h'⟩
    | _ => cases h'
theorem dropR_eq : ∀ (n : Nat) (l : List AV), dropR n l = l.drop n
  | 0, l => rfl
  | n + 1, [] => rfl
  | n + 1, x :: l => dropR_eq n l
theorem takeR_eq : ∀ (n : Nat) (l : List AV), takeR n l = l.take n
  | 0, l => by cases l <;> rfl
  | n + 1, [] => rfl
  | n + 1, x :: l => by
    show x :: takeR n l = _
    rw [takeR_eq n l]; rfl
theorem nthO_eq : ∀ (n : Nat) (l : List AV), nthO n l = l[n]?
  | 0, [] => rfl
  | 0, x :: l => rfl
  | n + 1, [] => rfl
  | n + 1, x :: l => by
    show nthO n l = _
    rw [nthO_eq n l]; simp
theorem bool_rec_some {b : Bool} {x v : AV} {o : Option AV} (h : Bool.rec (motive := fun _ => Option AV) none o b = some v) : b = true ∧ o = some v := by
  cases b with
  | false => cases h
  | true => exact ⟨rfl, h⟩
theorem bool_rec_some' {b : Bool} {v : AV} {o : Option AV} (h : Bool.rec (motive := fun _ => Option AV) none o b = some v) : b = true ∧ o = some v := by
  cases b with
  | false => cases h
  | true => exact ⟨rfl, h⟩

theorem loadK_spec {C : Cfg} {t : TypeId} {a : Operand} {ls : List Nat} {L : List AV} {T : Tm} {H : AH} {v : AV} (h : (loadK C t (opdK C.gl ls a)).f L T H = some v) : opA C (rhoF C ls L T) H (.load t a) = .val v H := by
  refine read_val rfl ?_
  show opLoad C.P H t (rhoF C ls L T a) = some v
  unfold loadK at h
  cases hu : (C.P.underlying t).isNone with
  | true => rw [hu] at h; cases h
  | false =>
    rw [hu] at h
    simp only [cond_false] at h
    cases ha : isAggT C.P t with
    | true =>
      rw [ha] at h
      simp only [cond_true] at h
      cases hs : sizeT C.P t with
      | none => rw [hs] at h; cases h
      | some n =>
        rw [hs] at h
        obtain ⟨id, off, lim, hx, h⟩ := onPtr_some h
        obtain ⟨cs, e, ver, fz, hg, h⟩ := cellsAt_some h
        obtain ⟨h1, h⟩ := bool_rec_some' h
        obtain ⟨h2, h⟩ := bool_rec_some' h
        cases h
        rw [takeR_eq, dropR_eq] at *
        have hx' : rhoF C ls L T a = .ptr id off lim := hx
        rw [hx']
        unfold opLoad loadV loadCells
        simp only [hu, cond_false, ha, cond_true, hs, hg]
        have h1' : Nat.ble (off + n) lim = true := h1
        simp only [h1', h2, Bool.and_self, cond_true]
    | false =>
      rw [ha] at h
      simp only [cond_false] at h
      obtain ⟨id, off, lim, hx, h⟩ := onPtr_some h
      obtain ⟨cs, e, ver, fz, hg, h⟩ := cellsAt_some h
      obtain ⟨h1, h⟩ := bool_rec_some' h
      rw [nthO_eq] at h
      have hx' : rhoF C ls L T a = .ptr id off lim := hx
      rw [hx']
      unfold opLoad loadV loadCells
      simp only [hu, cond_false, ha, hg]
      have h1' : Nat.ble (off + 1) lim = true := h1
      have hl : (cs.drop off).take 1 = [v] := by
        have hlt := (List.getElem?_eq_some_iff.1 h)
        obtain ⟨hlt, he⟩ := hlt
        rw [List.drop_eq_getElem_cons hlt, List.take_succ_cons, List.take_zero, he]
      simp only [hl, h1', List.length_singleton, Nat.beq_refl, Bool.and_self, cond_true]
end Go.AM
namespace Go.AM
open Go
variable {G : Gh}

theorem lenK_spec {C : Cfg} {c : Call} {t : TypeId} {x : Operand} {ls : List Nat} {L : List AV} {T : Tm} {H : AH} {v : AV} (hc : c.callee = .builtin .len) (ht : c.argTypes[0]? = some t) (ha : c.args.toList = [x])
    (h : (lenK C (fun L T H => genP C (.call c) (rhoF C ls L T) H) t (opdK C.gl ls x)).f L T H = some v) : opA C (rhoF C ls L T) H (.call c) = .val v H := by
  have hcl : clsOf (.call c) = .read := by
    obtain ⟨ce, as, ts⟩ := c
    simp only at hc
    subst hc
    rfl
  have key : lenA C.P H t (rhoF C ls L T x) = some v → opA C (rhoF C ls L T) H (.call c) = .val v H := by
    intro hl
    refine read_val hcl ?_
    show (match c.argTypes[0]?, c.args.toList with | some t, [x] => lenA C.P H t (rhoF C ls L T x) | _, _ => none) = some v
    rw [ht, ha]; exact hl
  unfold lenK at h
  split at h
  · rename_i hu
    obtain ⟨s, hx, h⟩ := onStr_some h
    cases h
    refine key ?_
    have hx' : rhoF C ls L T x = .str s := hx
    unfold lenA
    rw [hu, hx']
  · rename_i e hu
    rcases onSlc_some h with ⟨hx, h⟩ | ⟨a, b, n, d, e, hx, h⟩
    · cases h
      refine key ?_
      have hx' : rhoF C ls L T x = .nils := hx
      unfold lenA
      rw [hu, hx']
    · cases h
      refine key ?_
      have hx' : rhoF C ls L T x = .slc a b n d e := hx
      unfold lenA
      rw [hu, hx']
  · exact genP_spec h

theorem indexAddrK_spec {C : Cfg} {t : TypeId} {x i : Operand} {ls : List Nat} {L : List AV} {T : Tm} {H : AH} {v : AV}
    (h : (indexAddrK C (fun L T H => genP C (.indexAddr t x i) (rhoF C ls L T) H) t (opdK C.gl ls x) (opdK C.gl ls i)).f L T H = some v) : opA C (rhoF C ls L T) H (.indexAddr t x i) = .val v H := by
  unfold indexAddrK at h
  split at h
  · rename_i el hu
    split at h
    · rename_i s hs
      cases h0 : Nat.blt 0 s with
      | false => rw [h0] at h; exact genP_spec h
      | true =>
        rw [h0] at h
        simp only [cond_true] at h
        rcases onSlc_some h with ⟨_, h⟩ | ⟨id, off, len, cap, esz, hx, h⟩
        · cases h
        · obtain ⟨k, n, hi, h⟩ := onNat_some h
          obtain ⟨h1, h⟩ := bool_rec_some' h
          obtain ⟨h2, h⟩ := bool_rec_some' h
          cases h
          refine pure_val rfl ?_
          show indexAddrA C.P t (rhoF C ls L T x) (rhoF C ls L T i) = _
          have hx' : rhoF C ls L T x = .slc id off len cap esz := hx
          have hi' : rhoF C ls L T i = .int k (.ofNat n) := hi
          rw [hx', hi']
          unfold indexAddrA asNat
          simp only [hu, hs]
          have h1' : Nat.blt n len = true := h1
          have hse : s = esz := by simpa using h2
          subst hse
          simp only [h1', h2, h0, Bool.and_self, cond_true]
          rfl
    · exact genP_spec h
  · exact genP_spec h

theorem fieldAddrK_spec {C : Cfg} {t : TypeId} {x : Operand} {f : Nat} {ls : List Nat} {L : List AV} {T : Tm} {H : AH} {v : AV}
    (h : (fieldAddrK C (fun L T H => genP C (.fieldAddr t x f) (rhoF C ls L T) H) t (opdK C.gl ls x) f).f L T H = some v) : opA C (rhoF C ls L T) H (.fieldAddr t x f) = .val v H := by
  unfold fieldAddrK at h
  split at h
  · rename_i fs hu
    split at h
    · rename_i fd hf
      split at h
      · rename_i n hs
        cases h0 : Nat.blt 0 n with
        | false => rw [h0] at h; exact genP_spec h
        | true =>
          rw [h0] at h
          simp only [cond_true] at h
          obtain ⟨id, off, lim, hx, h⟩ := onPtr_some h
          cases h
          refine pure_val rfl ?_
          show fieldAddrA C.P t (rhoF C ls L T x) f = _
          have hx' : rhoF C ls L T x = .ptr id off lim := hx
          rw [hx']
          unfold fieldAddrA
          simp only [hu, hf, hs, h0, cond_true]
          rfl
      · exact genP_spec h
    · exact genP_spec h
  · exact genP_spec h

theorem compP_spec {C : Cfg} {op : Op} {ls : List Nat} {L : List AV} {T : Tm} {H : AH} {v : AV} (h : (compP C ls op).f L T H = some v) : opA C (rhoF C ls L T) H op = .val v H := by
  unfold compP at h
  split at h
  · cases h; exact pure_val rfl rfl
  · cases h; exact pure_val rfl rfl
  · rename_i c a b
    obtain ⟨t, hx, h⟩ := onBool_some rfl h
    refine pure_val rfl ?_
    show pickA (rhoF C ls L T c) (rhoF C ls L T a) (rhoF C ls L T b) = some v
    have hx' : rhoF C ls L T c = .bool t := hx
    rw [hx']
    cases t <;> (cases h; rfl)
  · exact binK_spec h
  · rename_i x i
    obtain ⟨l, hx, h⟩ := onTup_some h
    refine pure_val rfl ?_
    show extractA (rhoF C ls L T x) i = some v
    have hx' : rhoF C ls L T x = .tup l := hx
    rw [hx']
    rw [nthO_eq] at h
    exact h
  · exact loadK_spec h
  · exact indexAddrK_spec h
  · exact fieldAddrK_spec h
  · rename_i c
    split at h
    · rename_i t x hc ht ha
      exact lenK_spec hc ht ha h
    · exact genP_spec h
  · exact genP_spec h

theorem compE_spec {C : Cfg} {op : Op} {ls : List Nat} {L : List AV} {T : Tm} {H : AH} : (compE C ls op).f L T H = opA C (rhoF C ls L T) H op := by
  unfold compE
  split
  · rfl
  · rename_i e
    have : opA C (rhoF C ls L T) H (.alloc e) = (match newA C.P e with | some n => OR.val (n.val H.next) (H.new n.blk) | none => .err) := rfl
    rw [this]
    cases newA C.P e <;> rfl
  · rename_i c
    split
    · rename_i g hc
      cases hb : hasBody C g with
      | false => rfl
      | true =>
        simp only [cond_true]
        have hcl : clsOf (.call c) = .eff := by
          obtain ⟨ce, as, ts⟩ := c
          simp only at hc
          subst hc
          rfl
        unfold opA
        rw [hcl]
        simp only
        show OR.call g _ = callA C (rhoF C ls L T) H c
        unfold callA
        rw [hc]
        simp only
        have hf : rhoF C ls L T (.func g) = .fn (.func g) [] [] := rfl
        rw [hf]
        simp only [List.nil_append, List.append_nil]
        unfold callTo
        unfold hasBody at hb
        rw [opdsK_eq]
        cases hfn : C.P.funcs[g]? with
        | none => rw [hfn] at hb; cases hb
        | some fn =>
          rw [hfn] at hb
          simp only at hb ⊢
          cases hbd : fn.body with
          | none => rw [hbd] at hb; cases hb
          | some b => rfl
    · rfl
  · rfl

/-! ### Local slots hold nothing in the tree -/
def J (lm : Nat) (T : Tm) : Prop := ∀ u, bit lm u = true → T.at u = .junk
theorem J.put {lm : Nat} {s s1 : St} {dst : Option Tmp} {v : AV} {H : AH} (h : J lm s.T) (hp : s.put dst v H = some s1) (hd : ∀ d, dst = some d → bit lm d = false) : J lm s1.T := by
  obtain ⟨_, _, _, _, h5⟩ := put_inv hp
  intro u hu
  rw [h5]
  by_cases e : dst = some u
  · rw [hd u e] at hu; cases hu
  · rw [if_neg e]; exact h u hu
theorem J.set {lm : Nat} {T : Tm} {d : Nat} {v : AV} (h : J lm T) (hd : bit lm d = false) : J lm (Tr.setN v T d) := by
  intro u hu
  rw [Tm.at_set]
  by_cases e : u = d
  · subst e; rw [hd] at hu; cases hu
  · rw [if_neg e]; exact h u hu

def JS (lm : Nat) (s : St) : Prop := J lm s.T ∧ lm < 2 ^ s.nt
theorem JS.put {lm : Nat} {s s1 : St} {dst : Option Tmp} {v : AV} {H : AH} (h : JS lm s) (hp : s.put dst v H = some s1) (hd : ∀ d, dst = some d → bit lm d = false) : JS lm s1 :=
  ⟨h.1.put hp hd, by rw [(put_inv hp).1]; exact h.2⟩
theorem stage_J {C : Cfg} {all : List Oper} {mask lm : Nat} {k : St → Nat → List RRec → List DOp → Res} {e : Ex} {s' : St} : ∀ (p : List DOp) (s : St) (dn : Nat) (rs : List RRec) (lt : List DOp), JS lm s →
    (∀ z ∈ p, ∀ d, z.o.dst = some d → bit lm d = false) → stageGo C all mask k p s dn rs lt = .ok e s' →
    ∃ s2 dn2 rs2 lt2, JS lm s2 ∧ (∀ z ∈ lt2, z ∈ p ∨ z ∈ lt) ∧ k s2 dn2 rs2 lt2 = .ok e s' := by
  intro p
  induction p with
  | nil =>
    intro s dn rs lt hj _ h
    unfold stageGo at h
    cases hc : checkReads C s.H rs with
    | true => rw [hc] at h; exact ⟨s, dn, rs, lt, hj, fun z hz => .inr hz, h⟩
    | false => rw [hc] at h; cases h
  | cons x p ih =>
    intro s dn rs lt hj hd h
    have hx := hd x List.mem_cons_self
    have hp := fun z hz => hd z (List.mem_cons_of_mem _ hz)
    have wide : ∀ {s1 dn1 rs1}, JS lm s1 → stageGo C all mask k p s1 dn1 rs1 lt = .ok e s' → ∃ s2 dn2 rs2 lt2, JS lm s2 ∧ (∀ z ∈ lt2, z ∈ x :: p ∨ z ∈ lt) ∧ k s2 dn2 rs2 lt2 = .ok e s' := by
      intro s1 dn1 rs1 h1 h2
      obtain ⟨s2, dn2, rs2, lt2, a, b, c⟩ := ih s1 dn1 rs1 lt h1 hp h2
      exact ⟨s2, dn2, rs2, lt2, a, fun z hz => (b z hz).imp (List.mem_cons_of_mem _) id, c⟩
    unfold stageGo at h
    cases hm : Nat.beq (Nat.land x.m mask) 0 with
    | false =>
      rw [hm] at h
      simp only [cond_false] at h
      obtain ⟨s2, dn2, rs2, lt2, a, b, c⟩ := ih s dn rs (lt ++ [x]) hj hp h
      refine ⟨s2, dn2, rs2, lt2, a, fun z hz => ?_, c⟩
      rcases b z hz with h | h
      · exact .inl (List.mem_cons_of_mem _ h)
      · simp only [List.mem_append, List.mem_singleton] at h
        rcases h with h | rfl
        · exact .inr h
        · exact .inl List.mem_cons_self
    | true =>
      rw [hm] at h
      simp only [cond_true] at h
      cases ha : Nat.beq (Nat.land x.m dn) x.m with
      | false => rw [ha] at h; cases h
      | true =>
        rw [ha] at h
        simp only [cond_true] at h
        split at h
        · cases h
        · unfold St.thenPut at h
          split at h
          · rename_i s1 hp1; exact wide (hj.put hp1 hx) h
          · cases h
        · split at h
          · split at h
            · unfold St.thenPut at h
              split at h
              · rename_i s1 hp1; exact wide (hj.put hp1 hx) h
              · cases h
            · cases h
          · split at h
            · unfold St.thenPut at h
              split at h
              · rename_i s1 hp1; exact wide (hj.put hp1 hx) h
              · cases h
            · cases h
          · split at h
            · unfold St.thenPut at h
              split at h
              · rename_i s1 hp1; exact wide (hj.put hp1 hx) h
              · cases h
            · cases h
          · cases h

theorem J.junked {lm : Nat} {T : Tm} (D : List Oper) (h : J lm T) : J lm (junked D T) := by
  intro u hu
  by_cases hex : ∃ o ∈ D, o.dst = some u
  · have := (junked_at D T u).1 hex
    simpa using this
  · rw [(junked_at D T u).2 fun o ho hd => hex ⟨o, ho, hd⟩]
    exact h u hu

theorem pair_T {C : Cfg} {x y : DOp} {dn : Nat} {rs : List RRec} {s s' : St} {e : Ex} (h : pairGo C x y dn rs s = .ok e s') : s'.T = s.T ∧ s'.nt = s.nt := by
  unfold pairGo at h
  split at h
  · generalize (rs.all _ && Nat.beq (Nat.land x.m dn) x.m && Nat.beq (Nat.land y.m dn) y.m) = c1 at h
    cases c1 with
    | false => cases h
    | true =>
      simp only [cond_true] at h
      split at h
      · generalize Nat.beq _ _ = c2 at h
        cases c2 with
        | true => cases h
        | false =>
          simp only [cond_false] at h
          split at h
          · split at h
            · cases h
              obtain ⟨nt, T, df, H⟩ := s
              exact ⟨rfl, rfl⟩
            · cases h
          · cases h
      · cases h
  · cases h

theorem draw_J {C : Cfg} {R : Rec} {all : List Oper} {lm : Nat} {e : Ex} {s' : St} : ∀ (es rest : List DOp) (dn : Nat) (rs : List RRec) (s : St), JS lm s →
    (∀ z ∈ es, ∀ d, z.o.dst = some d → bit lm d = false) → (∀ z ∈ rest, ∀ d, z.o.dst = some d → bit lm d = false) → drawGo C R all es rest dn rs s = .ok e s' → JS lm s' := by
  intro es
  induction es with
  | nil =>
    intro rest dn rs s hj _ _ h
    unfold drawGo at h
    split at h
    · cases h; exact hj
    · cases h
  | cons x es ih =>
    intro rest dn rs s hj he hr h
    have hx := he x List.mem_cons_self
    unfold drawGo at h
    cases hall : es.all (fun z => bit z.m x.i) with
    | true =>
      rw [hall] at h
      simp only [cond_true] at h
      cases ha : Nat.beq (Nat.land x.m dn) x.m with
      | false => rw [ha] at h; cases h
      | true =>
        rw [ha] at h
        simp only [cond_true] at h
        have cont : ∀ (v : AV) (H : AH), s.thenPut x.o.dst v H (fun s' => stageGo C all (maskOf es) (fun s2 dn2 rs2 lt => drawGo C R all es lt dn2 rs2 s2) rest s' (Nat.lor dn (2 ^ x.i)) (keepReads x.m rs) []) = .ok e s' → JS lm s' := by
          intro v H hk
          unfold St.thenPut at hk
          split at hk
          · rename_i s1 hp
            obtain ⟨s2, dn2, rs2, lt2, a, b, c⟩ := stage_J rest s1 _ _ [] (hj.put hp hx) hr hk
            exact ih lt2 dn2 rs2 s2 a (fun z hz => he z (List.mem_cons_of_mem _ hz)) (fun z hz => hr z ((b z hz).elim id (fun h => by simp at h))) c
          · cases hk
        have gone : ∀ r : CR, r.gone all s x.o.dst (fun s' => stageGo C all (maskOf es) (fun s2 dn2 rs2 lt => drawGo C R all es lt dn2 rs2 s2) rest s' (Nat.lor dn (2 ^ x.i)) (keepReads x.m rs) []) = .ok e s' → JS lm s' := by
          intro r hk
          cases r with
          | ret v H => exact cont v H hk
          | pan v H => simp only [CR.gone, Res.ok.injEq] at hk; obtain ⟨_, rfl⟩ := hk; exact ⟨hj.1.junked all, hj.2⟩
          | err => cases hk
        split at h
        · cases h
        · exact cont _ _ h
        · split at h
          · exact cont _ _ h
          · exact gone _ h
          · exact gone _ h
          · cases h
    | false =>
      rw [hall] at h
      simp only [cond_false] at h
      split at h
      · have := pair_T h
        unfold JS
        rw [this.1, this.2]; exact hj
      · cases h
end Go.AM
namespace Go.AM
open Go

theorem bit_lt {lm nt u : Nat} (h : lm < 2 ^ nt) (hu : bit lm u = true) : u < nt := by
  rcases Nat.lt_or_ge u nt with h1 | h1
  · exact h1
  · rw [bit_eq] at hu
    have : lm < 2 ^ u := Nat.lt_of_lt_of_le h (Nat.pow_le_pow_right (by omega) h1)
    rw [Nat.testBit_lt_two_pow this] at hu
    cases hu
theorem idxOf_mem : ∀ {ls : List Nat} {u i : Nat}, idxOf u ls = some i → u ∈ ls
  | [], u, i, h => by cases h
  | x :: l, u, i, h => by
    unfold idxOf at h
    cases hb : Nat.beq x u with
    | true => have : x = u := by simpa using hb
              subst this; exact List.mem_cons_self
    | false =>
      rw [hb] at h
      simp only [cond_false] at h
      split at h
      · rename_i j hj; exact List.mem_cons_of_mem _ (idxOf_mem hj)
      · cases h

def GoodG (lm : Nat) (dst : Option Tmp) (ls : List Nat) (k : List Nat → RK) (g : AV → Rec → List AV → Nat → Tm → List ADef → AH → Res) : Prop :=
  (dst = none ∧ g = fun _ R L nt T d H => (k ls).f R L nt T d H) ∨
  (∃ x, dst = some x ∧ bit lm x = true ∧ idxOf x ls = none ∧ g = fun v R L nt T d H => (k (x :: ls)).f R (v :: L) nt T d H) ∨
  (∃ x, dst = some x ∧ bit lm x = false ∧ g = fun v R L nt T d H => Bool.rec (motive := fun _ => Res) .err ((k ls).f R L nt (setA v (pa x) T) d H) (Nat.ble (Nat.succ x) nt))
theorem dstK_cases (lm : Nat) (dst : Option Tmp) (ls : List Nat) (k : List Nat → RK) (F : (AV → Rec → List AV → Nat → Tm → List ADef → AH → Res) → RK) :
    dstK lm dst ls k F = ⟨fun _ _ _ _ _ _ => .err⟩ ∨ ∃ g, dstK lm dst ls k F = F g ∧ GoodG lm dst ls k g := by
  unfold dstK
  cases dst with
  | none => exact .inr ⟨_, rfl, .inl ⟨rfl, rfl⟩⟩
  | some x =>
    simp only
    cases hb : bit lm x with
    | true =>
      simp only [cond_true]
      cases hi : idxOf x ls with
      | some _ => exact .inl rfl
      | none => exact .inr ⟨_, rfl, .inr (.inl ⟨x, rfl, hb, hi, rfl⟩)⟩
    | false => exact .inr ⟨_, rfl, .inr (.inr ⟨x, rfl, hb, rfl⟩)⟩

/-- What the operations from a place on come to. -/
def RestOk (C : Cfg) (R : Rec) (ops : Array Oper) (lm : Nat) (k : List Nat → RK) (idx : List Nat) : Prop :=
  ∀ ls, (∀ u ∈ ls, bit lm u = true) → ∀ L nt T d H e s', lm < 2 ^ nt → (k ls).f R L nt T d H = .ok e s' → J lm T →
    JS lm s' ∧ ∀ (G : Gh) b kk cs σ t dd w, (R.rd = false → b.roundOf = none) → SR G C σ ⟨nt, T, d, H⟩ t dd w → LRel σ ls L t →
      Out G C σ w (lone (FrX b t dd (.inRegion ops idx :: kk)) cs w) b kk cs e s'

theorem cont_sound {C : Cfg} {R : Rec} {ops : Array Oper} {lm : Nat} {k : List Nat → RK} {idx : List Nat} (hk : RestOk C R ops lm k idx) {dst : Option Tmp} {ls : List Nat} (hls : ∀ u ∈ ls, bit lm u = true) {g : AV → Rec → List AV → Nat → Tm → List ADef → AH → Res} (hg : GoodG lm dst ls k g)
    {v : AV} {L : List AV} {nt : Nat} {T : Tm} {d : List ADef} {H : AH} {e : Ex} {s' : St} (hlm : lm < 2 ^ nt) (h : g v R L nt T d H = .ok e s') (hj : J lm T) :
    JS lm s' ∧ ∀ (G : Gh) b kk cs σ t dd w y, (R.rd = false → b.roundOf = none) → SR G C σ ⟨nt, T, d, H⟩ t dd w → LRel σ ls L t → VR σ v y →
      Out G C σ w (lone (FrX b (putX t dst y) dd (.inRegion ops idx :: kk)) cs w) b kk cs e s' := by
  rcases hg with ⟨rfl, rfl⟩ | ⟨x, rfl, hb, hi, rfl⟩ | ⟨x, rfl, hb, rfl⟩
  · obtain ⟨h1, h2⟩ := hk ls hls L nt T d H e s' hlm h hj
    exact ⟨h1, fun G b kk cs σ t dd w y hr hsr hl _ => h2 G b kk cs σ t dd w hr hsr hl⟩
  · obtain ⟨h1, h2⟩ := hk (x :: ls) (fun u hu => (List.mem_cons.1 hu).elim (fun e => e ▸ hb) (hls u)) (v :: L) nt T d H e s' hlm h hj
    refine ⟨h1, fun G b kk cs σ t dd w y hr hsr hl hv => h2 G b kk cs σ _ dd w hr ?_ ?_⟩
    · refine ⟨hsr.gl, ⟨by simp [putX]; exact hsr.tr.1, fun u => ?_⟩, hsr.dr, hsr.sim⟩
      have hx : x < t.size := by have := hsr.tr.1; simp at this; rw [this]; exact bit_lt hlm hb
      rw [putX_getD u (fun d hd => by cases hd; exact hx)]
      by_cases e : (some x : Option Tmp) = some u
      · rw [if_pos e]
        cases e
        simp only
        rw [hj x hb]; exact .junk _
      · rw [if_neg e]; exact hsr.tr.2 u
    · intro u i hi'
      have hx : x < t.size := by have := hsr.tr.1; simp at this; rw [this]; exact bit_lt hlm hb
      rw [putX_getD u (fun d hd => by cases hd; exact hx)]
      unfold idxOf at hi'
      cases hxu : Nat.beq x u with
      | true =>
        rw [hxu] at hi'
        cases hi'
        have : x = u := by simpa using hxu
        subst this
        rw [if_pos rfl]; exact hv
      | false =>
        rw [hxu] at hi'
        simp only [cond_false] at hi'
        have hne : ¬ (some x : Option Tmp) = some u := by intro e; cases e; simp at hxu
        rw [if_neg hne]
        split at hi'
        · rename_i j hj'
          cases hi'
          exact hl u j hj'
        · cases hi'
  · simp only at h
    cases hb2 : Nat.ble (Nat.succ x) nt with
    | false => rw [hb2] at h; cases h
    | true =>
      rw [hb2] at h
      have hx : x < nt := by have h9 : x + 1 ≤ nt := by simpa using hb2
                             exact h9
      rw [setA_pa] at h
      obtain ⟨h1, h2⟩ := hk ls hls L nt _ d H e s' hlm h (hj.set hb)
      refine ⟨h1, fun G b kk cs σ t dd w y hr hsr hl hv => h2 G b kk cs σ _ dd w hr ⟨hsr.gl, hsr.tr.put hv hx, hsr.dr, hsr.sim⟩ ?_⟩
      intro u i hi
      have hxs : x < t.size := by have := hsr.tr.1; simp at this; rw [this]; exact hx
      have hne : ¬ (some x : Option Tmp) = some u := by
        intro e; cases e
        have := hls x (idxOf_mem hi)
        rw [hb] at this; cases this
      have := putX_getD (t := t) (dst := some x) (y := y) u (fun d hd => by cases hd; exact hxs)
      rw [this, if_neg hne]
      exact hl u i hi

theorem opt_rec_ok {o : Option AV} {f : AV → Res} {e : Ex} {s : St} (h : Option.rec (motive := fun _ => Res) .err f o = .ok e s) : ∃ v, o = some v ∧ f v = .ok e s := by
  cases o with
  | none => cases h
  | some v => exact ⟨v, rfl, h⟩

theorem base_sound {C : Cfg} (hC : CfgOk C) {R : Rec} (hR : RecOk C R) {ops : Array Oper} {lm : Nat} {k : List Nat → RK} {i : Nat} {idx : List Nat} (hk : RestOk C R ops lm k idx) {o : Oper} (ho : ops[i]? = some o) {ls : List Nat} (hls : ∀ u ∈ ls, bit lm u = true)
    {L : List AV} {nt : Nat} {T : Tm} {d : List ADef} {H : AH} {e : Ex} {s' : St} (hlm : lm < 2 ^ nt) (h : (baseK C lm o ls k).f R L nt T d H = .ok e s') (hj : J lm T) :
    JS lm s' ∧ ∀ (G : Gh) b kk cs σ t dd w, (R.rd = false → b.roundOf = none) → SR G C σ ⟨nt, T, d, H⟩ t dd w → LRel σ ls L t → Region.wanted o (yielded ops t) = true →
      Out G C σ w (lone (FrX b t dd (.inRegion ops (i :: idx) :: kk)) cs w) b kk cs e s' := by
  -- operations that leave memory
  have quiet : (clsOf o.op).isEff = false → dstK lm o.dst ls k (fun g => ⟨fun R L nt T d H => Option.rec (motive := fun _ => Res) .err (fun v => g v R L nt T d H) ((compP C ls o.op).f L T H)⟩) = baseK C lm o ls k →
      JS lm s' ∧ ∀ (G : Gh) b kk cs σ t dd w, (R.rd = false → b.roundOf = none) → SR G C σ ⟨nt, T, d, H⟩ t dd w → LRel σ ls L t → Region.wanted o (yielded ops t) = true →
      Out G C σ w (lone (FrX b t dd (.inRegion ops (i :: idx) :: kk)) cs w) b kk cs e s' := by
    intro hcl heq
    rw [← heq] at h
    rcases dstK_cases lm o.dst ls k (fun g => ⟨fun R L nt T d H => Option.rec (motive := fun _ => Res) .err (fun v => g v R L nt T d H) ((compP C ls o.op).f L T H)⟩) with h1 | ⟨g, h1, hg⟩
    · rw [h1] at h; cases h
    · rw [h1] at h
      obtain ⟨v, hv, h⟩ := opt_rec_ok h
      obtain ⟨q1, q2⟩ := cont_sound hk hls hg hlm h hj
      refine ⟨q1, fun G b kk cs σ t dd w hr hsr hl hw => ?_⟩
      have hx := exec_sound hC hsr.sim (rhoF_VR hsr.gl hsr.tr hl) o
      simp only at hx
      rw [compP_spec hv] at hx
      obtain ⟨y, w', σ', hrun, hv1, hs1, hg1⟩ := hx
      have hnd := not_defer hcl
      have hout := q2 G b kk cs σ' t dd w' y hr ⟨hsr.gl.mono hg1.le, hsr.tr.mono hg1.le, hsr.dr.mono hg1.le, hs1⟩ (hl.mono hg1.le) hv1
      rcases hrun with hrun | ⟨hrun, rfl⟩
      · exact hout.of_steps (.one (stepX_value ho hw (.inr hnd) hrun)) hg1
      · exact hout.of_steps (.one (stepX_skipped ho hw (.inr hnd) hrun)) hg1
  have loud : dstK lm o.dst ls k (fun g => ⟨fun R L nt T d H => orK ((compE C ls o.op).f L T H) R nt T d H (fun v d' H' => g v R L nt T d' H')⟩) = baseK C lm o ls k →
      JS lm s' ∧ ∀ (G : Gh) b kk cs σ t dd w, (R.rd = false → b.roundOf = none) → SR G C σ ⟨nt, T, d, H⟩ t dd w → LRel σ ls L t → Region.wanted o (yielded ops t) = true →
      Out G C σ w (lone (FrX b t dd (.inRegion ops (i :: idx) :: kk)) cs w) b kk cs e s' := by
    intro heq
    rw [← heq] at h
    rcases dstK_cases lm o.dst ls k (fun g => ⟨fun R L nt T d H => orK ((compE C ls o.op).f L T H) R nt T d H (fun v d' H' => g v R L nt T d' H')⟩) with h1 | ⟨g, h1, hg⟩
    · rw [h1] at h; cases h
    · rw [h1] at h
      have h' : orK (opA C (rhoF C ls L T) H o.op) R nt T d H (fun v d' H' => g v R L nt T d' H') = .ok e s' := by rw [← compE_spec]; exact h
      clear h
      have hrn : ∀ (G : Gh) (b : Frame) σ t dd w, (R.rd = false → b.roundOf = none) → SR G C σ ⟨nt, T, d, H⟩ t dd w → b.roundOf = none ∨ ∀ c, o.op ≠ .defer c := by
        intro G b σ t dd w hb _
        cases hrd : R.rd with
        | false => exact .inl (hb hrd)
        | true =>
          right
          intro c hc
          rcases clsDefer (C := C) (ρ := rhoF C ls L T) (H := H) hc with ⟨x, hx⟩ | hx
          · rw [hx] at h'
            have h'' : Bool.rec (motive := fun _ => Res) (g (.tup []) R L nt T (x :: d) H) .err R.rd = .ok e s' := h'
            rw [hrd] at h''; cases h''
          · rw [hx] at h'; cases h'
      generalize hop : opA C (rhoF C ls L T) H o.op = r at h'
      cases r with
      | val v H1 =>
        have hg1 : g v R L nt T d H1 = .ok e s' := h'
        obtain ⟨q1, q2⟩ := cont_sound hk hls hg hlm hg1 hj
        refine ⟨q1, fun G b kk cs σ t dd w hb hsr hl hw => ?_⟩
        have hr := hrn G b σ t dd w hb hsr
        have hx := exec_sound hC hsr.sim (rhoF_VR hsr.gl hsr.tr hl) o
        simp only at hx
        rw [hop] at hx
        obtain ⟨y, w', σ', hrun, hv1, hs1, hg1⟩ := hx
        have hout := q2 G b kk cs σ' t dd w' y hb ⟨hsr.gl.mono hg1.le, hsr.tr.mono hg1.le, hsr.dr.mono hg1.le, hs1⟩ (hl.mono hg1.le) hv1
        rcases hrun with hrun | ⟨hrun, rfl⟩
        · exact hout.of_steps (.one (stepX_value ho hw hr hrun)) hg1
        · exact hout.of_steps (.one (stepX_skipped ho hw hr hrun)) hg1
      | call f args =>
        have h2 : crK (R.call f args H) nt T d (fun v H' => g v R L nt T d H') = .ok e s' := h'
        have hcall := hR.call f args H
        generalize R.call f args H = cr at h2 hcall
        cases cr with
        | ret v H1 =>
          have hg1 : g v R L nt T d H1 = .ok e s' := h2
          obtain ⟨q1, q2⟩ := cont_sound hk hls hg hlm hg1 hj
          refine ⟨q1, fun G b kk cs σ t dd w hb hsr hl hw => ?_⟩
          have hr := hrn G b σ t dd w hb hsr
          have hx := exec_sound hC hsr.sim (rhoF_VR hsr.gl hsr.tr hl) o
          simp only at hx
          rw [hop] at hx
          obtain ⟨ys, hrun, hlr⟩ := hx
          obtain ⟨σ', w', y, fr, hv, hs, hg1, hst, hfn, hlv⟩ := hcall G σ w ys (FrX b t dd (.inRegion ops (i :: idx) :: kk) :: cs) hsr.gl hsr.sim hlr
          have hout := q2 G b kk cs σ' t dd w' y hb ⟨hsr.gl.mono hg1.le, hsr.tr.mono hg1.le, hsr.dr.mono hg1.le, hs⟩ (hl.mono hg1.le) hv
          refine hout.of_steps ((Steps.head (stepX_enter ho hw hr hrun) hst).trans (.one ?_)) hg1
          rw [step_leave_returned hlv, FrX_finish, ho]; rfl
        | pan v H1 =>
          have hg1 : Res.ok (.pan v) ⟨nt, T, d, H1⟩ = .ok e s' := h2
          cases hg1
          refine ⟨⟨hj, hlm⟩, fun G b kk cs σ t dd w hb hsr hl hw => ?_⟩
          have hr := hrn G b σ t dd w hb hsr
          have hx := exec_sound hC hsr.sim (rhoF_VR hsr.gl hsr.tr hl) o
          simp only at hx
          rw [hop] at hx
          obtain ⟨ys, hrun, hlr⟩ := hx
          obtain ⟨σ', w', y, fr, hv, hs, hg1, hst, hfn, hlv⟩ := hcall G σ w ys (FrX b t dd (.inRegion ops (i :: idx) :: kk) :: cs) hsr.gl hsr.sim hlr
          refine ⟨σ', t, dd, w', ⟨hsr.gl.mono hg1.le, hsr.tr.mono hg1.le, hsr.dr.mono hg1.le, hs⟩, hg1, .inRegion ops (i :: idx) :: kk, y, hv, (Steps.head (stepX_enter ho hw hr hrun) hst).trans (.one ?_)⟩
          rw [step_leave_panicked hlv]; rfl
        | err => cases h2
      | round id args =>
        have h2 : crK (R.round id args H) nt T d (fun v H' => g v R L nt T d H') = .ok e s' := h'
        have hround := hR.round id args H
        generalize R.round id args H = cr at h2 hround
        cases cr with
        | ret v H1 =>
          have hg1 : g v R L nt T d H1 = .ok e s' := h2
          obtain ⟨q1, q2⟩ := cont_sound hk hls hg hlm hg1 hj
          refine ⟨q1, fun G b kk cs σ t dd w hb hsr hl hw => ?_⟩
          have hr := hrn G b σ t dd w hb hsr
          have hx := exec_sound hC hsr.sim (rhoF_VR hsr.gl hsr.tr hl) o
          simp only at hx
          rw [hop] at hx
          obtain ⟨bb, r, ys, r1, r2, hlr, hrun⟩ := hx
          obtain ⟨lp, f, tm, asg, body, σ', w', y, hy, hv, hs, hg1, hst⟩ := hround G σ w bb r ys (FrX b t dd (.inRegion ops (i :: idx) :: kk)) cs hsr.gl hsr.sim r1 r2 hlr
          have hout := q2 G b kk cs σ' t dd w' y hb ⟨hsr.gl.mono hg1.le, hsr.tr.mono hg1.le, hsr.dr.mono hg1.le, hs⟩ (hl.mono hg1.le) hv
          refine hout.of_steps (Steps.head (stepX_round ho hw hr (hrun.trans hy)) ?_) hg1
          rw [FrX_finish, ho] at hst; exact hst
        | pan v H1 => exact hround.elim
        | err => cases h2
      | pan v =>
        have hg1 : Res.ok (.pan v) ⟨nt, T, d, H⟩ = .ok e s' := h'
        cases hg1
        refine ⟨⟨hj, hlm⟩, fun G b kk cs σ t dd w hb hsr hl hw => ?_⟩
        have hr := hrn G b σ t dd w hb hsr
        have hx := exec_sound hC hsr.sim (rhoF_VR hsr.gl hsr.tr hl) o
        simp only at hx
        rw [hop] at hx
        obtain ⟨y, hrun, hv⟩ := hx
        exact ⟨σ, t, dd, w, hsr, Grw.refl σ w, .inRegion ops (i :: idx) :: kk, y, hv, .one (stepX_panic ho hw hr hrun)⟩
      | dfr x =>
        have h2 : Bool.rec (motive := fun _ => Res) (g (.tup []) R L nt T (x :: d) H) .err R.rd = .ok e s' := h'
        rcases (by cases R.rd <;> simp : R.rd = true ∨ R.rd = false) with hrd | hrd
        · rw [hrd] at h2; cases h2
        · rw [hrd] at h2
          obtain ⟨q1, q2⟩ := cont_sound hk hls hg hlm h2 hj
          refine ⟨q1, fun G b kk cs σ t dd w hb hsr hl hw => ?_⟩
          have hr := hrn G b σ t dd w hb hsr
          have hx := exec_sound hC hsr.sim (rhoF_VR hsr.gl hsr.tr hl) o
          simp only at hx
          rw [hop] at hx
          obtain ⟨x', hrun, hd⟩ := hx
          have hout := q2 G b kk cs σ t (x' :: dd) w undef hb ⟨hsr.gl, hsr.tr, ⟨hd, hsr.dr⟩, hsr.sim⟩ hl (.tup' (LR.nil σ))
          exact hout.of_steps (.one (stepX_deferred ho hw hr hrun)) (Grw.refl σ w)
      | rcv => cases h'
      | err => cases h'
  unfold baseK at *
  cases hc : clsOf o.op with
  | pure => rw [hc] at quiet; exact quiet rfl rfl
  | read => rw [hc] at quiet; exact quiet rfl rfl
  | alloc => rw [hc] at loud; exact loud rfl
  | eff => rw [hc] at loud; exact loud rfl

theorem skip_sound {C : Cfg} {R : Rec} {ops : Array Oper} {lm : Nat} {k : List Nat → RK} {i : Nat} {idx : List Nat} (hk : RestOk C R ops lm k idx) {o : Oper} (ho : ops[i]? = some o) {ls : List Nat} (hls : ∀ u ∈ ls, bit lm u = true)
    {L : List AV} {nt : Nat} {T : Tm} {d : List ADef} {H : AH} {e : Ex} {s' : St} (hlm : lm < 2 ^ nt) (h : (skipK lm o ls k).f R L nt T d H = .ok e s') (hj : J lm T) :
    JS lm s' ∧ ∀ (G : Gh) b kk cs σ t dd w, (R.rd = false → b.roundOf = none) → SR G C σ ⟨nt, T, d, H⟩ t dd w → LRel σ ls L t → Region.wanted o (yielded ops t) = false →
      Out G C σ w (lone (FrX b t dd (.inRegion ops (i :: idx) :: kk)) cs w) b kk cs e s' := by
  unfold skipK at h
  rcases dstK_cases lm o.dst ls k (fun g => ⟨fun R L nt T d H => g (.tup []) R L nt T d H⟩) with h1 | ⟨g, h1, hg⟩
  · rw [h1] at h; cases h
  · rw [h1] at h
    obtain ⟨q1, q2⟩ := cont_sound hk hls hg hlm h hj
    refine ⟨q1, fun G b kk cs σ t dd w hb hsr hl hw => ?_⟩
    have hout := q2 G b kk cs σ t dd w undef hb hsr hl (.tup' (LR.nil σ))
    refine hout.of_steps (.one ?_) (Grw.refl σ w)
    have := stepX_op_skip (P := C.P) (b := b) (t := t) (d := dd) (k := kk) (cs := cs) (w := w) (ops := ops) (i := i) (rest := idx) (by
      rw [ho]
      simp only [Option.map_some, Option.getD_some]
      exact hw)
    rw [ho] at this
    exact this

theorem onWant_ok {n z : Res} {g : Bool → Res} {x : AV} {e : Ex} {s : St} (hz : z = .err) (h : onWant n z g x = .ok e s) : (∃ b, x = .bool b ∧ g b = .ok e s) ∨ (x ≠ .junk ∧ (∀ b, x ≠ .bool b) ∧ n = .ok e s) := by
  subst hz
  cases x <;> first
    | exact .inl ⟨_, rfl, h⟩
    | exact .inr ⟨by simp, by simp, h⟩
    | cases h

theorem wanted_at {ops : Array Oper} {o q : Oper} {j x : Nat} {want : Bool} {t : Array Value} (hg : o.guard = some (j, want)) (hq : ops[j]? = some q) (hd : q.dst = some x) {σ : Own} {v : AV} (hv : VR σ v (t.getD x undef)) :
    (∀ b, v = .bool b → Region.wanted o (yielded ops t) = (b == want)) ∧ (v ≠ .junk → (∀ b, v ≠ .bool b) → Region.wanted o (yielded ops t) = false) := by
  have key : ∀ bb, (match v with | .bool b => some (b == want) | .junk => none | _ => some false) = some bb → Region.wanted o (yielded ops t) = bb := by
    intro bb h
    refine wantedV_sound (σ := σ) (V := fun _ => v) (fun j' w' q' d' h1 h2 h3 => ?_) ?_
    · rw [hg] at h1; cases h1
      rw [hq] at h2; cases h2
      rw [hd] at h3; cases h3
      exact hv
    · unfold wantedV
      rw [hg]
      simp only
      have hq' : ops.toList[j]? = some q := by simpa using hq
      rw [hq']
      simp only [hd]
      exact h
  refine ⟨fun b hb => key _ (by rw [hb]), fun h1 h2 => key _ ?_⟩
  cases v <;> first | rfl | exact absurd rfl h1 | exact absurd rfl (h2 _)

theorem compR_sound {C : Cfg} (hC : CfgOk C) {R : Rec} (hR : RecOk C R) (ops : Array Oper) (lm : Nat) : ∀ (l : List Oper) (i : Nat), ops.toList.drop i = l → RestOk C R ops lm (compR C lm ops.toList l) (List.range' i l.length) := by
  intro l
  induction l with
  | nil =>
    intro i _ ls _ L nt T d H e s' hlm h hj
    have h' : Res.ok .nrm ⟨nt, T, d, H⟩ = .ok e s' := h
    cases h'
    exact ⟨⟨hj, hlm⟩, fun G b kk cs σ t dd w _ hsr _ => .nrm hsr (.one stepX_region_end)⟩
  | cons o l ih =>
    intro i hl ls hls L nt T d H e s' hlm h hj
    have hi : i < ops.toList.length := by
      rcases Nat.lt_or_ge i ops.toList.length with h | h
      · exact h
      · rw [List.drop_eq_nil_of_le h] at hl; cases hl
    have ho : ops[i]? = some o := by
      have := congrArg (fun l => l[0]?) hl
      simp [List.getElem?_drop] at this
      simpa using this
    have hl' : ops.toList.drop (i + 1) = l := by
      rw [← List.tail_drop, hl]; rfl
    have hk := ih (i + 1) hl'
    rw [List.length_cons, List.range'_succ]
    have h' : (guardK C lm ops.toList o ls (fun ls' => compR C lm ops.toList l ls')).f R L nt T d H = .ok e s' := h
    unfold guardK at h'
    split at h'
    · rename_i hg
      obtain ⟨q1, q2⟩ := base_sound hC hR hk ho hls hlm h' hj
      exact ⟨q1, fun G b kk cs σ t dd w hb hsr hl => q2 G b kk cs σ t dd w hb hsr hl (by unfold Region.wanted; rw [hg])⟩
    · rename_i j want hg
      have noq : (∀ q, ops[j]? = some q → q.dst = none) → ∀ t, Region.wanted o (yielded ops t) = false := by
        intro hn t
        unfold Region.wanted yielded
        rw [hg]
        simp only
        cases hq : ops[j]? with
        | none => rfl
        | some q =>
          simp only [Option.bind_some, hn q hq, Option.bind_none]
          rfl
      split at h'
      · rename_i q hq
        have hq' : ops[j]? = some q := by simpa using hq
        split at h'
        · rename_i x hd
          rcases onWant_ok rfl h' with ⟨bb, hx, h2⟩ | ⟨n1, n2, h2⟩
          · have hx' : rhoF C ls L T (.tmp x) = .bool bb := hx
            cases bb <;> cases want
            · obtain ⟨q1, q2⟩ := base_sound hC hR hk ho hls hlm h2 hj
              exact ⟨q1, fun G b kk cs σ t dd w hb hsr hl => q2 G b kk cs σ t dd w hb hsr hl ((wanted_at hg hq' hd (rhoF_VR hsr.gl hsr.tr hl (.tmp x))).1 _ hx')⟩
            · obtain ⟨q1, q2⟩ := skip_sound hk ho hls hlm h2 hj
              exact ⟨q1, fun G b kk cs σ t dd w hb hsr hl => q2 G b kk cs σ t dd w hb hsr hl ((wanted_at hg hq' hd (rhoF_VR hsr.gl hsr.tr hl (.tmp x))).1 _ hx')⟩
            · obtain ⟨q1, q2⟩ := skip_sound hk ho hls hlm h2 hj
              exact ⟨q1, fun G b kk cs σ t dd w hb hsr hl => q2 G b kk cs σ t dd w hb hsr hl ((wanted_at hg hq' hd (rhoF_VR hsr.gl hsr.tr hl (.tmp x))).1 _ hx')⟩
            · obtain ⟨q1, q2⟩ := base_sound hC hR hk ho hls hlm h2 hj
              exact ⟨q1, fun G b kk cs σ t dd w hb hsr hl => q2 G b kk cs σ t dd w hb hsr hl ((wanted_at hg hq' hd (rhoF_VR hsr.gl hsr.tr hl (.tmp x))).1 _ hx')⟩
          · obtain ⟨q1, q2⟩ := skip_sound hk ho hls hlm h2 hj
            exact ⟨q1, fun G b kk cs σ t dd w hb hsr hl => q2 G b kk cs σ t dd w hb hsr hl ((wanted_at hg hq' hd (rhoF_VR hsr.gl hsr.tr hl (.tmp x))).2 n1 n2)⟩
        · rename_i hd
          obtain ⟨q1, q2⟩ := skip_sound hk ho hls hlm h' hj
          exact ⟨q1, fun G b kk cs σ t dd w hb hsr hl => q2 G b kk cs σ t dd w hb hsr hl (noq (fun q' hq2 => by rw [hq'] at hq2; cases hq2; exact hd) t)⟩
      · rename_i hq
        have hq' : ops[j]? = none := by simpa using hq
        obtain ⟨q1, q2⟩ := skip_sound hk ho hls hlm h' hj
        exact ⟨q1, fun G b kk cs σ t dd w hb hsr hl => q2 G b kk cs σ t dd w hb hsr hl (noq (fun q' hq2 => by rw [hq'] at hq2; cases hq2) t)⟩
end Go.AM
namespace Go.AM
open Go

theorem J_zero (T : Tm) : J 0 T := fun u hu => by rw [bit_zero] at hu; cases hu

theorem seqK_ok {k : Nat → Tm → List ADef → AH → Res} {r : Res} {e : Ex} {s' : St} (h : seqK k r = .ok e s') : (∃ s1, r = .ok .nrm s1 ∧ k s1.nt s1.T s1.dfr s1.H = .ok e s') ∨ (r = .ok e s' ∧ e ≠ .nrm) := by
  cases r with
  | err => cases h
  | ok e1 s1 =>
    cases e1 with
    | nrm => exact .inl ⟨s1, rfl, h⟩
    | exit n => cases h; exact .inr ⟨rfl, by simp⟩
    | ret => cases h; exact .inr ⟨rfl, by simp⟩
    | pan v => cases h; exact .inr ⟨rfl, by simp⟩

theorem jumpE_ok {C : Cfg} {R : Rec} (hR : RecOk C R) : EvOk C (jumpE R) := by
  refine ⟨fun rd c s e s' h G b k cs σ t d w hb hsr => ?_, hR.call, hR.round⟩
  unfold jumpE at h
  simp only at h
  split at h
  · cases h
    exact ⟨⟨σ, t, d, w, hsr, Grw.refl σ w, k, rfl, .refl _ _⟩, fun body hc => by cases hc⟩
  · cases h
    exact ⟨⟨σ, t, d, w, hsr, Grw.refl σ w, k, .refl _ _⟩, fun body hc => by cases hc⟩
  · cases h

theorem rangeFunc_T {C : Cfg} {R : Rec} {rd : Bool} {f : Operand} {ps : Array Tmp} {a b : Code} {s s' : St} {e : Ex} (h : rangeFuncA C (jumpE R) rd f ps a b s = .ok e s') : s'.T = s.T ∧ s'.nt = s.nt := by
  obtain ⟨nt, T, df, H⟩ := s
  unfold rangeFuncA at h
  cases rd with
  | true => cases h
  | false =>
    simp only [cond_false] at h
    split at h
    · generalize hasBody C _ = c at h
      cases c with
      | false => cases h
      | true =>
        simp only [Bool.not_true, cond_false] at h
        split at h
        · split at h
          · generalize Nat.beq _ 1 = c2 at h
            cases c2 with
            | true => cases h
            | false =>
              simp only [cond_false] at h
              split at h
              · cases h; exact ⟨rfl, rfl⟩
              · unfold jumpE at h
                simp only at h
                split at h
                · cases h; exact ⟨rfl, rfl⟩
                · cases h; exact ⟨rfl, rfl⟩
                · cases h
          · cases h
        · cases h; exact ⟨rfl, rfl⟩
        · cases h
    · cases h

theorem dstsOk_spec {lm : Nat} : ∀ {l : List Oper}, dstsOk lm l = true → ∀ o ∈ l, ∀ d, o.dst = some d → bit lm d = false := by
  intro l
  induction l with
  | nil => intro _ o ho; cases ho
  | cons x l ih =>
    intro h o ho d hd
    unfold dstsOk at h
    simp only [Bool.and_eq_true] at h
    rcases List.mem_cons.1 ho with rfl | ho
    · have := h.1
      rw [hd] at this
      simp only at this
      cases hb : bit lm d with
      | false => rfl
      | true => rw [hb] at this; cases this
    · exact ih h.2 o ho d hd

theorem drawA_J {C : Cfg} {R : Rec} {ops : List Oper} {lm : Nat} {s s' : St} {e : Ex} (hd : dstsOk lm ops = true) (hj : JS lm s) (h : drawA C R ops s = .ok e s') : JS lm s' := by
  unfold drawA at h
  simp only at h
  have hmem : ∀ z ∈ ancsGo ops 0 [], z.o ∈ ops := by
    intro z hz
    obtain ⟨k, hk⟩ := List.getElem?_of_mem hz
    obtain ⟨o, h1, h2, _⟩ := ancsGo_at ops 0 [] rfl k z hk
    rw [h2]; exact List.mem_of_getElem? h1
  have he : ∀ (l : List DOp), (∀ z ∈ effsOf l, z ∈ l) ∧ (∀ z ∈ restOf l, z ∈ l) := by
    intro l
    induction l with
    | nil => exact ⟨fun z hz => hz, fun z hz => hz⟩
    | cons x l ih =>
      unfold effsOf restOf
      cases (clsOf x.o.op).isEff with
      | true =>
        simp only [cond_true]
        refine ⟨fun z hz => ?_, fun z hz => List.mem_cons_of_mem _ (ih.2 z hz)⟩
        rcases List.mem_cons.1 hz with rfl | hz
        · exact List.mem_cons_self
        · exact List.mem_cons_of_mem _ (ih.1 z hz)
      | false =>
        simp only [cond_false]
        refine ⟨fun z hz => List.mem_cons_of_mem _ (ih.1 z hz), fun z hz => ?_⟩
        rcases List.mem_cons.1 hz with rfl | hz
        · exact List.mem_cons_self
        · exact List.mem_cons_of_mem _ (ih.2 z hz)
  obtain ⟨he1, he2⟩ := he (ancsGo ops 0 [])
  have hdz : ∀ z ∈ ancsGo ops 0 [], ∀ d, z.o.dst = some d → bit lm d = false := fun z hz => dstsOk_spec hd z.o (hmem z hz)
  cases hok : drawOk (ancsGo ops 0 []) with
  | false => rw [hok] at h; cases h
  | true =>
    rw [hok] at h
    simp only [cond_true] at h
    obtain ⟨s2, dn2, rs2, lt2, a, b, c⟩ := stage_J (restOf (ancsGo ops 0 [])) s 0 [] [] hj (fun z hz => hdz z (he2 z hz)) h
    exact draw_J _ lt2 dn2 rs2 s2 a (fun z hz => hdz z (he1 z hz)) (fun z hz => hdz z ((b z hz).elim (he2 z) (fun h => by simp at h))) c

theorem onBool_ok {n : Res} {g : Bool → Res} {x : AV} {e : Ex} {s : St} (hn : n = .err) (h : onBool n g x = .ok e s) : ∃ b, x = .bool b ∧ g b = .ok e s := by
  subst hn
  cases x <;> first | exact ⟨_, rfl, h⟩ | cases h

theorem compC_sound {C : Cfg} (hC : CfgOk C) {R : Rec} (hR : RecOk C R) (lm : Nat) (c : Code) : ∀ (nt : Nat) (T : Tm) (d : List ADef) (H : AH) (e : Ex) (s' : St), lm < 2 ^ nt → (compC C lm c).f R nt T d H = .ok e s' → J lm T →
    JS lm s' ∧ ∀ (G : Gh) b k cs σ t dd w, (R.rd = false → b.roundOf = none) → SR G C σ ⟨nt, T, d, H⟩ t dd w →
      Out G C σ w (lone (FrX b t dd (.code c :: k)) cs w) b k cs e s' ∧ (∀ body, c = .loop body → Out G C σ w (lone (FrX b t dd (.inLoop body :: k)) cs w) b k cs e s') := by
  induction c with
  | skip =>
    intro nt T d H e s' hlm h hj
    have h' : Res.ok .nrm ⟨nt, T, d, H⟩ = .ok e s' := h
    cases h'
    exact ⟨⟨hj, hlm⟩, fun G b k cs σ t dd w hb hsr => ⟨.nrm hsr (.one stepX_skip), fun _ hc => by cases hc⟩⟩
  | label l =>
    intro nt T d H e s' hlm h hj
    have h' : Res.ok .nrm ⟨nt, T, d, H⟩ = .ok e s' := h
    cases h'
    exact ⟨⟨hj, hlm⟩, fun G b k cs σ t dd w hb hsr => ⟨.nrm hsr (.one stepX_label), fun _ hc => by cases hc⟩⟩
  | seq x y ihx ihy =>
    intro nt T d H e s' hlm h hj
    have h' : seqK (fun nt T d H => (compC C lm y).f R nt T d H) ((compC C lm x).f R nt T d H) = .ok e s' := h
    rcases seqK_ok h' with ⟨s1, h1, h2⟩ | ⟨h1, hne⟩
    · obtain ⟨j1, o1⟩ := ihx nt T d H _ _ hlm h1 hj
      obtain ⟨j2, o2⟩ := ihy _ _ _ _ _ _ j1.2 h2 j1.1
      refine ⟨j2, fun G b k cs σ t dd w hb hsr => ⟨?_, fun _ hc => by cases hc⟩⟩
      exact Out.of_steps (.one stepX_seq) (Grw.refl σ w) ((o1 G b (.code y :: k) cs σ t dd w hb hsr).1.andThen fun σ1 t1 d1 w1 hsr1 => (o2 G b k cs σ1 t1 d1 w1 hb hsr1).1)
    · obtain ⟨j1, o1⟩ := ihx nt T d H _ _ hlm h1 hj
      refine ⟨j1, fun G b k cs σ t dd w hb hsr => ⟨?_, fun _ hc => by cases hc⟩⟩
      exact Out.of_steps (.one stepX_seq) (Grw.refl σ w) ((o1 G b (.code y :: k) cs σ t dd w hb hsr).1.pass (fun _ => rfl) hne)
  | cond x a b iha ihb =>
    intro nt T d H e s' hlm h hj
    have h' : onBool .err (fun t => Bool.rec (motive := fun _ => Res) ((compC C lm b).f R nt T d H) ((compC C lm a).f R nt T d H) t) (rhoF C [] [] T x) = .ok e s' := h
    obtain ⟨u, hx, h2⟩ := onBool_ok rfl h'
    have fin : ∀ (G : Gh) (fb : Frame) k cs σ t dd w, SR G C σ ⟨nt, T, d, H⟩ t dd w → Out G C σ w (lone (FrX fb t dd (.code (if u then a else b) :: k)) cs w) fb k cs e s' → Out G C σ w (lone (FrX fb t dd (.code (.cond x a b) :: k)) cs w) fb k cs e s' := by
      intro G fb k cs σ t dd w hsr o
      have hv := rhoF_VR (C := C) (ls := []) (L := []) hsr.gl hsr.tr (fun u i h => by cases h) x
      simp only at hv
      rw [hx] at hv
      generalize hy : evX t x = y' at hv
      cases hv
      exact Out.of_steps (.one (stepX_cond hy)) (Grw.refl σ w) o
    cases u with
    | true =>
      obtain ⟨j1, o1⟩ := iha nt T d H _ _ hlm h2 hj
      exact ⟨j1, fun G fb k cs σ t dd w hb hsr => ⟨fin G fb k cs σ t dd w hsr (o1 G fb k cs σ t dd w hb hsr).1, fun _ hc => by cases hc⟩⟩
    | false =>
      obtain ⟨j1, o1⟩ := ihb nt T d H _ _ hlm h2 hj
      exact ⟨j1, fun G fb k cs σ t dd w hb hsr => ⟨fin G fb k cs σ t dd w hsr (o1 G fb k cs σ t dd w hb hsr).1, fun _ hc => by cases hc⟩⟩
  | block id body ih =>
    intro nt T d H e s' hlm h hj
    have h' : blockK id ((compC C lm body).f R nt T d H) = .ok e s' := h
    generalize hr : (compC C lm body).f R nt T d H = r at h'
    cases r with
    | err => cases h'
    | ok e1 s1 =>
      obtain ⟨j1, o1⟩ := ih nt T d H _ _ hlm hr hj
      cases e1 with
      | nrm =>
        have h2 : Res.ok .nrm s1 = .ok e s' := h'
        cases h2
        exact ⟨j1, fun G b k cs σ t dd w hb hsr => ⟨Out.of_steps (.one stepX_block) (Grw.refl σ w) ((o1 G b (.inBlock id :: k) cs σ t dd w hb hsr).1.andThen fun σ1 t1 d1 w1 hsr1 => .nrm hsr1 (.one stepX_inBlock)), fun _ hc => by cases hc⟩⟩
      | exit n =>
        have h2 : Bool.rec (motive := fun _ => Res) (.ok (.exit n) s1) (.ok .nrm s1) (Nat.beq n id) = .ok e s' := h'
        cases hn : Nat.beq n id with
        | true =>
          rw [hn] at h2
          cases h2
          have hnid : n = id := by simpa using hn
          subst hnid
          refine ⟨j1, fun G b k cs σ t dd w hb hsr => ⟨?_, fun _ hc => by cases hc⟩⟩
          obtain ⟨σ', t', d', w', q1, q2, k0, q3, q4⟩ := (o1 G b (.inBlock n :: k) cs σ t dd w hb hsr).1
          refine ⟨σ', t', d', w', q1, q2, (Steps.head stepX_block q4).trans (.one (stepX_exit ?_))⟩
          rw [q3]; simp [exitTo]
        | false =>
          rw [hn] at h2
          cases h2
          have hnid : ¬ id = n := by rintro rfl; simp at hn
          refine ⟨j1, fun G b k cs σ t dd w hb hsr => ⟨?_, fun _ hc => by cases hc⟩⟩
          obtain ⟨σ', t', d', w', q1, q2, k0, q3, q4⟩ := (o1 G b (.inBlock id :: k) cs σ t dd w hb hsr).1
          refine ⟨σ', t', d', w', q1, q2, k0, ?_, Steps.head stepX_block q4⟩
          rw [q3]; simp [exitTo, hnid]
      | ret =>
        have h2 : Res.ok .ret s1 = .ok e s' := h'
        cases h2
        exact ⟨j1, fun G b k cs σ t dd w hb hsr => ⟨Out.of_steps (.one stepX_block) (Grw.refl σ w) ((o1 G b (.inBlock id :: k) cs σ t dd w hb hsr).1.any (.inl rfl)), fun _ hc => by cases hc⟩⟩
      | pan v =>
        have h2 : Res.ok (.pan v) s1 = .ok e s' := h'
        cases h2
        exact ⟨j1, fun G b k cs σ t dd w hb hsr => ⟨Out.of_steps (.one stepX_block) (Grw.refl σ w) ((o1 G b (.inBlock id :: k) cs σ t dd w hb hsr).1.any (.inr ⟨v, rfl⟩)), fun _ hc => by cases hc⟩⟩
  | loop body ih =>
    intro nt T d H e s' hlm h hj
    have h' : loopK (fun nt T d H => (compC C lm body).f R nt T d H) 100000 nt T d H = .ok e s' := h
    have key : ∀ (n nt : Nat) (T : Tm) (d : List ADef) (H : AH) (e : Ex) (s' : St), lm < 2 ^ nt → loopK (fun nt T d H => (compC C lm body).f R nt T d H) n nt T d H = .ok e s' → J lm T →
        JS lm s' ∧ ∀ (G : Gh) b k cs σ t dd w, (R.rd = false → b.roundOf = none) → SR G C σ ⟨nt, T, d, H⟩ t dd w → Out G C σ w (lone (FrX b t dd (.code body :: .inLoop body :: k)) cs w) b k cs e s' := by
      intro n
      induction n with
      | zero => intro nt T d H e s' _ h _; cases h
      | succ n ihn =>
        intro nt T d H e s' hlm h hj
        have h2 : seqK (loopK (fun nt T d H => (compC C lm body).f R nt T d H) n) ((compC C lm body).f R nt T d H) = .ok e s' := h
        rcases seqK_ok h2 with ⟨s1, h1, h2⟩ | ⟨h1, hne⟩
        · obtain ⟨j1, o1⟩ := ih nt T d H _ _ hlm h1 hj
          obtain ⟨j2, o2⟩ := ihn _ _ _ _ _ _ j1.2 h2 j1.1
          exact ⟨j2, fun G b k cs σ t dd w hb hsr => (o1 G b (.inLoop body :: k) cs σ t dd w hb hsr).1.andThen fun σ1 t1 d1 w1 hsr1 => (o2 G b k cs σ1 t1 d1 w1 hb hsr1).of_steps (.one stepX_inLoop) (Grw.refl σ1 w1)⟩
        · obtain ⟨j1, o1⟩ := ih nt T d H _ _ hlm h1 hj
          exact ⟨j1, fun G b k cs σ t dd w hb hsr => (o1 G b (.inLoop body :: k) cs σ t dd w hb hsr).1.pass (fun _ => rfl) hne⟩
    obtain ⟨j1, o1⟩ := key _ nt T d H e s' hlm h' hj
    refine ⟨j1, fun G b k cs σ t dd w hb hsr => ⟨(o1 G b k cs σ t dd w hb hsr).of_steps (.one stepX_loop) (Grw.refl σ w), fun body' hc => ?_⟩⟩
    cases hc
    exact (o1 G b k cs σ t dd w hb hsr).of_steps (.one stepX_inLoop) (Grw.refl σ w)
  | rangeFunc f ps a b iha ihb =>
    intro nt T d H e s' hlm h hj
    have h' : rangeFuncA C (jumpE R) R.rd f ps a b ⟨nt, T, d, H⟩ = .ok e s' := h
    have ht := rangeFunc_T h'
    refine ⟨⟨by rw [ht.1]; exact hj, by rw [ht.2]; exact hlm⟩, fun G fb k cs σ t dd w hb hsr => ⟨rangeFunc_sound hC (jumpE_ok hR) h' hb hsr, fun _ hc => by cases hc⟩⟩
  | scope body ih =>
    intro nt T d H e s' hlm h hj
    obtain ⟨j1, o1⟩ := ih nt T d H _ _ hlm h hj
    refine ⟨j1, fun G b k cs σ t dd w hb hsr => ⟨?_, fun _ hc => by cases hc⟩⟩
    have o := (o1 G b (.inScope body :: k) cs σ t dd w hb hsr).1
    refine Out.of_steps (.one stepX_scope) (Grw.refl σ w) ?_
    cases e with
    | nrm => exact o.andThen fun σ1 t1 d1 w1 hsr1 => .nrm hsr1 (.one stepX_inScope)
    | exit j => exact o.pass (fun _ => rfl) (by simp)
    | ret => exact o.any (.inl rfl)
    | pan v => exact o.any (.inr ⟨v, rfl⟩)
  | exit id =>
    intro nt T d H e s' hlm h hj
    have h' : Res.ok (.exit id) ⟨nt, T, d, H⟩ = .ok e s' := h
    cases h'
    exact ⟨⟨hj, hlm⟩, fun G b k cs σ t dd w hb hsr => ⟨⟨σ, t, dd, w, hsr, Grw.refl σ w, k, rfl, .refl _ _⟩, fun _ hc => by cases hc⟩⟩
  | ret =>
    intro nt T d H e s' hlm h hj
    have h' : Res.ok .ret ⟨nt, T, d, H⟩ = .ok e s' := h
    cases h'
    exact ⟨⟨hj, hlm⟩, fun G b k cs σ t dd w hb hsr => ⟨⟨σ, t, dd, w, hsr, Grw.refl σ w, k, .refl _ _⟩, fun _ hc => by cases hc⟩⟩
  | region id ops draw =>
    intro nt T d H e s' hlm h hj
    cases draw with
    | false =>
      have h' : (compR C lm ops.toList ops.toList []).f R [] nt T d H = .ok e s' := h
      obtain ⟨j1, o1⟩ := compR_sound hC hR ops lm ops.toList 0 rfl [] (fun u hu => by cases hu) [] nt T d H e s' hlm h' hj
      refine ⟨j1, fun G b k cs σ t dd w hb hsr => ⟨?_, fun _ hc => by cases hc⟩⟩
      refine Out.of_steps (.one stepX_region) (Grw.refl σ w) ?_
      have := o1 G b k cs σ t dd w hb hsr (fun u i h => by cases h)
      rwa [Array.length_toList, ← List.range_eq_range'] at this
    | true =>
      have h' : (bif dstsOk lm ops.toList then (⟨fun R nt T d H => drawA C R ops.toList ⟨nt, T, d, H⟩⟩ : CK) else ⟨fun _ _ _ _ _ => .err⟩).f R nt T d H = .ok e s' := h
      cases hd : dstsOk lm ops.toList with
      | false => rw [hd] at h'; cases h'
      | true =>
        rw [hd] at h'
        have h2 : drawA C R ops.toList ⟨nt, T, d, H⟩ = .ok e s' := h'
        exact ⟨drawA_J hd ⟨hj, hlm⟩ h2, fun G b k cs σ t dd w hb hsr => ⟨draw_ok hC R hR id ops _ e s' h2 G b k cs σ t dd w hb hsr, fun _ hc => by cases hc⟩⟩
  | goto l => intro nt T d H e s' _ h _; cases h
  | refuse w => intro nt T d H e s' _ h _; cases h
end Go.AM
namespace Go.AM
open Go

theorem argsR_eq : ∀ (l : List AV) (i : Nat) (T : Tm), argsR l i T = argsT l i T
  | [], _, _ => rfl
  | v :: l, i, T => by
    show argsR l (i + 1) (setA v (pa i) T) = _
    rw [argsR_eq l, setA_pa]; rfl
theorem argsT_at : ∀ (l : List AV) (i : Nat) (T : Tm) (u : Nat), i + l.length ≤ u → (argsT l i T).at u = T.at u
  | [], _, _, _, _ => rfl
  | v :: l, i, T, u, h => by
    simp at h
    show (argsT l (i + 1) (Tr.setN v T i)).at u = _
    rw [argsT_at l (i + 1) _ u (by omega), Tm.at_set, if_neg (by omega)]
theorem args_J {lm : Nat} {args : List AV} (h : Nat.beq (Nat.mod lm (2 ^ args.length)) 0 = true) : J lm (argsT args 0 .leaf) := by
  intro u hu
  rcases Nat.lt_or_ge u args.length with hl | hl
  · have h' : lm % 2 ^ args.length = 0 := Nat.eq_of_beq_eq_true h
    rw [bit_eq] at hu
    have h2 := Nat.testBit_mod_two_pow lm args.length u
    rw [h', Nat.zero_testBit, hu] at h2
    simp [hl] at h2
  · rw [argsT_at args 0 _ u (by omega)]
    unfold Tm.at
    rw [Tr.get_leaf]

theorem resA_irr (P : Program) (T : Tm) (H : AH) (n n' : Nat) (d d' : List ADef) : ∀ l, resA P ⟨n, T, d, H⟩ l = resA P ⟨n', T, d', H⟩ l
  | [] => rfl
  | .tmp t :: l => by simp only [resA, resA_irr P T H n n' d d' l]
  | .cell a t :: l => by simp only [resA, resA_irr P T H n n' d d' l]
theorem tmpsK_res {P : Program} {T : Tm} {H : AH} {n : Nat} {d : List ADef} : ∀ {l : List ResultVar} {k : LK}, tmpsK l = some k → resA P ⟨n, T, d, H⟩ l = some (k.f [] T)
  | [], k, h => by cases h; rfl
  | .tmp t :: l, k, h => by
    unfold tmpsK at h
    cases hl : tmpsK l with
    | none => rw [hl] at h; cases h
    | some k' =>
      rw [hl] at h
      cases h
      simp only [resA, tmpsK_res hl]
      rw [← getA_pa]
  | .cell a t :: l, k, h => by cases h

/-- What a run of a body comes to. -/
noncomputable def endA (C : Cfg) (E : Evs) (fn : Func) : Res → CR
  | .ok .nrm s => leaveA C E fn s.dfr s none
  | .ok .ret s => leaveA C E fn s.dfr s none
  | .ok (.pan v) s => leaveA C E fn s.dfr s (some (v, false))
  | _ => .err
theorem endK_eq {C : Cfg} {E : Evs} {fn : Func} {q : AH → Tm → CR} (hq : ∀ n T H, q H T = leaveA C E fn [] ⟨n, T, [], H⟩ none) (r : Res) : endK C E fn q r = endA C E fn r := by
  cases r with
  | err => rfl
  | ok e s =>
    obtain ⟨nt, T, d, H⟩ := s
    cases e <;> cases d <;> first | rfl | exact hq nt T H

theorem funK_sound {C : Cfg} (hC : CfgOk C) {E : Evs} (hE : EvOk C E) (lmT : Nat → Nat) (f : FuncId) (args : List AV) (H : AH) : CallR C f args H ((funK C lmT f).f E args H) := by
  have hR : RecOk C (E.rec' false) := ⟨hE.call, hE.round⟩
  -- what the closure comes to
  have form : (funK C lmT f).f E args H = .err ∨ ∃ fn body, C.P.funcs[f]? = some fn ∧ fn.body = some body ∧ lmT f < 2 ^ fn.ntmps ∧ args.length ≤ fn.ntmps ∧ J (lmT f) (argsT args 0 .leaf) ∧
      (funK C lmT f).f E args H = endA C E fn ((compC C (lmT f) body).f (E.rec' false) fn.ntmps (argsT args 0 .leaf) [] H) := by
    unfold funK
    cases hfn : C.P.funcs[f]? with
    | none => exact .inl rfl
    | some fn =>
      simp only
      cases hbd : fn.body with
      | none => exact .inl rfl
      | some body =>
        simp only
        cases hlt : Nat.blt (lmT f) (2 ^ fn.ntmps) with
        | false => exact .inl rfl
        | true =>
          simp only [cond_true]
          have hlt' : lmT f < 2 ^ fn.ntmps := by simpa [Nat.blt_eq] using hlt
          have common : ∀ q : AH → Tm → CR, (∀ n T H, q H T = leaveA C E fn [] ⟨n, T, [], H⟩ none) →
              (Bool.rec (motive := fun _ => CR) .err (endK C E fn q ((compC C (lmT f) body).f (E.rec' false) fn.ntmps (argsR args 0 .leaf) [] H)) (Bool.rec (motive := fun _ => Bool) false (Nat.ble args.length fn.ntmps) (Nat.beq (Nat.mod (lmT f) (2 ^ args.length)) 0)) = .err) ∨
              (args.length ≤ fn.ntmps ∧ J (lmT f) (argsT args 0 .leaf) ∧ Bool.rec (motive := fun _ => CR) .err (endK C E fn q ((compC C (lmT f) body).f (E.rec' false) fn.ntmps (argsR args 0 .leaf) [] H)) (Bool.rec (motive := fun _ => Bool) false (Nat.ble args.length fn.ntmps) (Nat.beq (Nat.mod (lmT f) (2 ^ args.length)) 0)) =
                endA C E fn ((compC C (lmT f) body).f (E.rec' false) fn.ntmps (argsT args 0 .leaf) [] H)) := by
            intro q hq
            cases h1 : Nat.beq (Nat.mod (lmT f) (2 ^ args.length)) 0 with
            | false => exact .inl rfl
            | true =>
              cases h2 : Nat.ble args.length fn.ntmps with
              | false => exact .inl rfl
              | true =>
                refine .inr ⟨by simpa using h2, args_J h1, ?_⟩
                simp only
                rw [endK_eq hq, argsR_eq]
          cases htk : tmpsK fn.results.toList with
          | none =>
            simp only
            rcases common (fun H T => leaveA C E fn [] ⟨fn.ntmps, T, [], H⟩ none) (fun n T H => by
              simp only [leaveA]
              rw [resA_irr C.P T H fn.ntmps n [] []]) with h | ⟨h1, h2, h3⟩
            · exact .inl h
            · exact .inr ⟨fn, body, rfl, hbd, hlt', h1, h2, h3⟩
          | some k =>
            simp only
            rcases common (fun H T => .ret (one (k.f [] T)) H) (fun n T H => by
              simp only [leaveA]
              rw [tmpsK_res (P := C.P) (T := T) (H := H) (n := n) (d := []) htk]) with h | ⟨h1, h2, h3⟩
            · exact .inl h
            · exact .inr ⟨fn, body, rfl, hbd, hlt', h1, h2, h3⟩
  rcases form with h | ⟨fn, body, hf, hb, hlt, hn, hj, hform⟩
  · rw [h]; trivial
  · have key : ∀ (G : Gh) σ w ys cs, GlOk C σ → Sim G σ H w → LR σ args ys.toList → LeaveR G C f σ w (lone (Frame.enter C.P f ys .normal) cs w) cs ((funK C lmT f).f E args H) := by
      intro G σ w ys cs hg hs hl
      rw [hform]
      obtain ⟨t, he, hsr⟩ := enter_SR (w := w) hg hs hf hb hl hn .normal
      rw [he]
      generalize hr : (compC C (lmT f) body).f (E.rec' false) fn.ntmps (argsT args 0 .leaf) [] H = r
      cases r with
      | err => trivial
      | ok e s =>
        obtain ⟨_, o⟩ := compC_sound hC hR (lmT f) body _ _ _ _ _ _ hlt hr hj
        have o1 := (o G (b0 f .normal) [] cs σ t [] w (fun _ => rfl) hsr).1
        cases e with
        | nrm =>
          obtain ⟨σ1, t1, d1, w1, q1, q2, q3⟩ := o1
          exact (leave_sound hC hE hf (todo := []) s.dfr s none trivial σ1 t1 d1 w1 .returning q1.dr q1.gl q1.tr q1.sim rfl).of_steps (Steps.trans q3 (.one (stepX_end rfl))) q2
        | exit n => trivial
        | ret =>
          obtain ⟨σ1, t1, d1, w1, q1, q2, k0, q3⟩ := o1
          exact (leave_sound hC hE hf (todo := _) s.dfr s none trivial σ1 t1 d1 w1 .returning q1.dr q1.gl q1.tr q1.sim rfl).of_steps (Steps.trans q3 (.one (stepX_ret rfl))) q2
        | pan v =>
          obtain ⟨σ1, t1, d1, w1, q1, q2, todo, y, hv, q3⟩ := o1
          exact (leave_sound hC hE hf (todo := todo) s.dfr s (some (v, false)) trivial σ1 t1 d1 w1 _ q1.dr q1.gl q1.tr q1.sim ⟨y, hv, rfl⟩).of_steps q3 q2
    generalize (funK C lmT f).f E args H = r at key
    cases r with
    | ret v H' => exact key
    | pan v H' => exact key
    | err => trivial

/-! ### Calls that are known -/
noncomputable def MO.out (m : MO) (H : AH) : CR := MO.rec (motive := fun _ => CR) (fun v => .ret v H) (fun k g => .ret (g H.next) (H.new k)) m
def MemoOk (C : Cfg) (K : Kit) : Prop := ∀ f, ∀ m ∈ K.memo f, ∀ H, isTab K.tab K.te H = true → CallR C f m.args H (m.out.out H)

theorem memoK_sound {C : Cfg} {f : FuncId} {args : List AV} {H : AH} {r : CR} (hr : CallR C f args H r) : ∀ (l : List ME), (∀ m ∈ l, CallR C f m.args H (m.out.out H)) → CallR C f args H (memoK l args H r)
  | [], _ => hr
  | m :: l, h => by
    show CallR C f args H (Bool.rec (motive := fun _ => CR) (memoK l args H r) (m.out.out H) (avsEq m.args args))
    cases he : avsEq m.args args with
    | false => exact memoK_sound hr l fun m' hm => h m' (List.mem_cons_of_mem _ hm)
    | true =>
      have := avsEq_of _ _ he
      have h2 := h m List.mem_cons_self
      rw [this] at h2
      exact h2

theorem fast_ok {C : Cfg} (hC : CfgOk C) {K : Kit} (hM : MemoOk C K) : ∀ n, EvOk C (fastE C K n)
  | 0 => ⟨fun _ _ _ _ _ h => (by cases h), fun _ _ _ => trivial, fun _ _ _ => trivial⟩
  | n + 1 => by
    have hE := fast_ok hC hM n
    refine ⟨fun rd c s e s' h G b k cs σ t d w hb hsr => ?_, fun f args H => ?_, fun id args H => roundE_sound hE id args H⟩
    · obtain ⟨nt, T, df, H⟩ := s
      have hR : RecOk C ((fastE C K n).rec' rd) := ⟨hE.call, hE.round⟩
      exact (compC_sound hC hR 0 c nt T df H e s' (Nat.pow_pos (by omega)) h (J_zero T)).2 G b k cs σ t d w hb hsr
    · have hf := funK_sound hC hE K.lm f args H
      show CallR C f args H (List.rec (motive := fun _ => CR) ((funK C K.lm f).f (fastE C K n) args H) (fun _ _ _ => Bool.rec (motive := fun _ => CR) .err (memoK (K.memo f) args H ((funK C K.lm f).f (fastE C K n) args H)) (isTab K.tab K.te H)) (K.memo f))
      have hm := hM f
      generalize hl : K.memo f = l at hm ⊢
      cases l with
      | nil => exact hf
      | cons m l =>
        simp only
        cases ht : isTab K.tab K.te H with
        | false => trivial
        | true => exact memoK_sound hf _ fun m' hm' => hm m' hm' H ht
end Go.AM
namespace Go.AM
open Go

/-! ### Plain values: without an address -/
mutual
def plainV : AV → Bool
  | .ptr _ _ _ => false
  | .slc _ _ _ _ _ => false
  | .map _ => false
  | .fn _ _ _ => false
  | .ifc _ v => plainV v
  | .agg l => plainL l
  | .tup l => plainL l
  | _ => true
def plainL : List AV → Bool
  | [] => true
  | x :: l => plainV x && plainL l
end
theorem plainL_at : ∀ {l : List AV}, plainL l = true → ∀ (i : Nat) (x : AV), l[i]? = some x → plainV x = true
  | [], _, i, x, h => by simp at h
  | y :: l, h, 0, x, e => by
    simp only [plainL, Bool.and_eq_true] at h
    simp at e; subst e; exact h.1
  | y :: l, h, i + 1, x, e => by
    simp only [plainL, Bool.and_eq_true] at h
    exact plainL_at h.2 i x (by simpa using e)
theorem VR.plain {σ σ' : Own} {x : AV} {y : Value} (h : VR σ x y) : plainV x = true → VR σ' x y := by
  induction h with
  | bool b => intro _; exact .bool b
  | int k n => intro _; exact .int k n
  | flt k n => intro _; exact .flt k n
  | str s b e => intro _; exact .str s b e
  | nilp => intro _; exact .nilp
  | ptr => intro h; simp [plainV] at h
  | nils => intro _; exact .nils
  | slc => intro h; simp [plainV] at h
  | nilm => intro _; exact .nilm
  | map => intro h; simp [plainV] at h
  | fn => intro h; simp [plainV] at h
  | yld => intro h; simp [plainV] at h
  | nilf => intro _; exact .nilf
  | ifc t x y _ ih => intro h; exact .ifc t x y (ih (by simpa [plainV] using h))
  | nili => intro _; exact .nili
  | agg cs ys h1 _ ih => intro h; exact .agg cs ys h1 fun i x hx => ih i x hx (plainL_at (by simpa [plainV] using h) i x hx)
  | tup cs ys h1 _ ih => intro h; exact .tup cs ys h1 fun i x hx => ih i x hx (plainL_at (by simpa [plainV] using h) i x hx)
  | junk y => intro _; exact .junk y
theorem LR.plain {σ σ' : Own} {l : List AV} {ys : List Value} (h : LR σ l ys) (hp : plainL l = true) : LR σ' l ys :=
  ⟨h.1, fun i x e => let ⟨y, h1, h2⟩ := h.2 i x e; ⟨y, h1, h2.plain (plainL_at hp i x e)⟩⟩
theorem BR.plain {σ σ' : Own} {cs : List AV} {e : TypeId} {ver fz : Nat} (hp : plainL cs = true) {r r' : Own1} {o : Obj} (hm : r'.m ≤ r.m) (hc : r'.csz = r.csz) (h : BR σ (.cells cs e ver fz) r o) : BR σ' (.cells cs e ver fz) r' o := by
  obtain ⟨c, fr, rfl, h1, h2, h3, h4, h5⟩ := h
  exact ⟨c, fr, rfl, h1.trans hc.symm, Nat.le_trans hm h2, by rw [hc]; exact Nat.le_trans hm h3, fun i x hi hx => (h4 i x (Nat.lt_of_lt_of_le hi hm) hx).plain (plainL_at hp i x hx), h5⟩

/-! ### The heap with the table alone -/
noncomputable def Kit.H0 (K : Kit) : AH := ⟨2, Tr.setN (.cells K.tab K.te 0 0) .leaf 1⟩
theorem Kit.H0_get (K : Kit) (i : Nat) : K.H0.get i = if i = 1 then some (.cells K.tab K.te 0 0) else none := by
  show (Tr.setN (ABlk.cells K.tab K.te 0 0) .leaf 1).get i = _
  rw [Tr.get_setN]
  split
  · rfl
  · exact Tr.get_leaf i
theorem cellsAt_bool {H : AH} {id : Nat} {g : List AV → TypeId → Nat → Nat → Bool} (h : cellsAt H id false g = true) : ∃ cs e ver fz, H.get id = some (.cells cs e ver fz) ∧ g cs e ver fz = true := by
  obtain ⟨nx, t⟩ := H
  have h' : Option.rec (motive := fun _ => Bool) false (fun k => ABlk.rec (motive := fun _ => Bool) g (fun _ _ => false) (fun _ _ _ _ => false) (fun _ _ => false) (fun _ _ _ _ _ _ _ _ _ => false) (fun _ => false) k) (getB t id) = true := h
  have hg : getB t id = (AH.mk nx t).get id := rfl
  rw [hg] at h'
  cases hk : (AH.mk nx t).get id with
  | none => rw [hk] at h'; cases h'
  | some k =>
    rw [hk] at h'
    cases k with
    | cells cs e ver fz => exact ⟨cs, e, ver, fz, rfl, h'⟩
    | _ => cases h'
theorem brec {b c : Bool} (h : Bool.rec (motive := fun _ => Bool) false c b = true) : b = true ∧ c = true := by cases b with | false => cases h | true => exact ⟨rfl, h⟩
theorem isTab_get {cs : List AV} {e : TypeId} {H : AH} (h : isTab cs e H = true) : H.get 1 = some (.cells cs e 0 0) := by
  obtain ⟨cs', e', ver, fz, hg, h⟩ := cellsAt_bool h
  obtain ⟨h1, h⟩ := brec h
  obtain ⟨h2, h⟩ := brec h
  obtain ⟨h3, h4⟩ := brec h
  have a1 := avsEq_of _ _ h1
  have a2 : e = e' := Nat.eq_of_beq_eq_true h2
  have a3 : ver = 0 := Nat.eq_of_beq_eq_true h3
  have a4 : fz = 0 := Nat.eq_of_beq_eq_true h4
  subst a1; subst a2; subst a3; subst a4
  exact hg

/-- The table is the one variable that is read. -/
structure KitOk (C : Cfg) (K : Kit) : Prop where
  gl : ∀ g n, C.gl g = n + 1 → g = 1
  one : ∃ n, C.gl 1 = n + 1
  tab : plainL K.tab = true

def only (σ : Own) : Own := fun b => if b = 1 then σ 1 else none
theorem only_one (σ : Own) : only σ 1 = σ 1 := by simp [only]
theorem only_ne {σ : Own} {b : Nat} (h : b ≠ 1) : only σ b = none := by simp [only, h]

section
variable {C : Cfg} {K : Kit}

theorem only_sim (hK : KitOk C K) {G : Gh} {σ : Own} {H : AH} {w : World} (hg : GlOk C σ) (hs : Sim G σ H w) (ht : isTab K.tab K.te H = true) : (∃ r, σ 1 = some r ∧ r.id = 1) ∧ GlOk C (only σ) ∧ Sim (fun _ => none) (only σ) K.H0 w := by
  obtain ⟨n, hn⟩ := hK.one
  obtain ⟨r, h1, h2, h3⟩ := hg 1 n hn
  refine ⟨⟨r, h1, h2⟩, fun g n e => ?_, ⟨fun b r' hr => ?_, fun b b' r r' k hr hr' _ _ _ => ?_, fun b r' hr => ?_, fun g k h => by cases h⟩⟩
  · have := hK.gl g n e
    subst this
    rw [only_one]; exact hg 1 n e
  · by_cases e : b = 1
    · subst e
      rw [only_one, h1] at hr; cases hr
      obtain ⟨k, o, q1, q2, q3⟩ := hs.blk 1 r h1
      rw [h2, isTab_get ht] at q1; cases q1
      exact ⟨_, o, by rw [h2, K.H0_get]; rfl, q2, q3.plain hK.tab (Nat.le_refl _) rfl⟩
    · rw [only_ne e] at hr; cases hr
  · by_cases e : b = 1 <;> by_cases e' : b' = 1
    · rw [e, e']
    · rw [only_ne e'] at hr'; cases hr'
    · rw [only_ne e] at hr; cases hr
    · rw [only_ne e] at hr; cases hr
  · by_cases e : b = 1
    · subst e; rw [only_one, h1] at hr; cases hr
      rw [h2]; show 1 < 2; omega
    · rw [only_ne e] at hr; cases hr

/-- Behind a run from the table alone. -/
theorem only_back (hK : KitOk C K) {G : Gh} {σ σ' : Own} {H H' : AH} {w w' : World} (hg : GlOk C σ) (hs : Sim G σ H w) (ht : isTab K.tab K.te H = true) (hs' : Sim (fun _ => none) σ' H' w') (hg' : Grw (only σ) σ' w w') (ht' : isTab K.tab K.te H' = true) : Sim G σ H w' ∧ Grw σ σ w w' := by
  obtain ⟨⟨r1, hr1, hr2⟩, _, _⟩ := only_sim hK hg hs ht
  have none_of : ∀ b, σ b = none → only σ b = none := fun b hb => by
    by_cases e : b = 1
    · subst e; rw [only_one]; exact hb
    · exact only_ne e
  refine ⟨⟨fun b r hr => ?_, hs.uniq, hs.fresh, hs.gh⟩, ⟨Own.le_refl σ, hg'.size, fun b hb hn => ⟨(hg'.keep b hb (none_of b hn)).1, hn⟩, hg'.os, hg'.tape, hg'.output⟩⟩
  obtain ⟨k, o, q1, q2, q3⟩ := hs.blk b r hr
  by_cases e : b = 1
  · subst e
    rw [hr1] at hr; cases hr
    obtain ⟨r', p1, p2, p3, p4⟩ := hg'.le 1 r1 (by rw [only_one]; exact hr1)
    obtain ⟨k', o', u1, u2, u3⟩ := hs'.blk 1 r' p1
    rw [p2, hr2, isTab_get ht'] at u1
    cases u1
    rw [hr2, isTab_get ht] at q1
    cases q1
    exact ⟨_, o', by rw [hr2]; exact isTab_get ht, u2, u3.plain hK.tab p3 p4.symm⟩
  · exact ⟨k, o, q1, by rw [(hg'.keep b (hs.lt hr) (only_ne e)).1]; exact q2, q3⟩

/-- A CALL WITH PLAIN ARGUMENTS AND A PLAIN ANSWER, that was run from the table alone, is known. -/
theorem memo_val (hK : KitOk C K) {f : FuncId} {args : List AV} {v : AV} {H' : AH} (h : CallR C f args K.H0 (.ret v H')) (hv : plainV v = true) (ha : plainL args = true) (ht' : isTab K.tab K.te H' = true) {H : AH} (ht : isTab K.tab K.te H = true) : CallR C f args H (.ret v H) := by
  intro G σ w ys cs hg hs hl
  obtain ⟨_, g0, s0⟩ := only_sim hK hg hs ht
  obtain ⟨σ', w', y, fr, h1, h2, h3, h4, h5, h6⟩ := h (fun _ => none) (only σ) w ys cs g0 s0 (hl.plain ha)
  obtain ⟨k1, k2⟩ := only_back hK hg hs ht h2 h3 ht'
  exact ⟨σ, w', y, fr, h1.plain hv, k1, k2, h4, h5, h6⟩

/-- The same where the answer is a slice of one new block of plain values. -/
theorem memo_blk (hK : KitOk C K) {f : FuncId} {args : List AV} {id' off len esz : Nat} {cap : Option Nat} {H' : AH} {cs : List AV} {e : TypeId} {ver fz : Nat} (h : CallR C f args K.H0 (.ret (.slc id' off len cap esz) H')) (hk : H'.get id' = some (.cells cs e ver fz)) (hcs : plainL cs = true) (hid : id' ≠ 1)
    (ha : plainL args = true) (ht' : isTab K.tab K.te H' = true) {H : AH} (ht : isTab K.tab K.te H = true) : CallR C f args H (.ret (.slc H.next off len cap esz) (H.new (.cells cs e ver fz))) := by
  intro G σ w ys css hg hs hl
  obtain ⟨⟨r1, hr1, hr2⟩, g0, s0⟩ := only_sim hK hg hs ht
  obtain ⟨σ', w', y, fr, h1, h2, h3, h4, h5, h6⟩ := h (fun _ => none) (only σ) w ys css g0 s0 (hl.plain ha)
  obtain ⟨k1, k2⟩ := only_back hK hg hs ht h2 h3 ht'
  cases h1 with
  | slc _ _ _ _ _ b cap' r' a1 a2 a3 a4 a5 a6 =>
    -- the block is new
    have hbn : w.heap.size ≤ b := by
      rcases Nat.lt_or_ge b w.heap.size with hlt | hge
      · by_cases e1 : b = 1
        · subst e1
          obtain ⟨r'', p1, p2, _⟩ := h3.le 1 r1 (by rw [only_one]; exact hr1)
          rw [a1] at p1; cases p1
          exact absurd (a2.symm.trans (p2.trans hr2)) hid
        · have := (h3.keep b hlt (only_ne e1)).2
          rw [a1] at this; cases this
      · exact hge
    have hnone : σ b = none := by
      cases hb : σ b with
      | none => rfl
      | some r => have := hs.lt hb; omega
    have hle : σ.le (σ.set b ⟨H.next, r'.m, r'.csz⟩) := Own.le_set_new σ _ hnone
    obtain ⟨k, o, u1, u2, u3⟩ := h2.blk b r' a1
    rw [a2, hk] at u1; cases u1
    refine ⟨σ.set b ⟨H.next, r'.m, r'.csz⟩, w', _, fr, .slc _ _ _ _ _ b cap' ⟨H.next, r'.m, r'.csz⟩ (Own.set_same _ _ _) rfl a3 a4 a5 a6, ⟨?_, ?_, ?_, ?_⟩, ⟨hle, k2.size, fun x hx hn => ⟨(k2.keep x hx hn).1, by rw [Own.set_other _ _ (by omega)]; exact hn⟩, k2.os, k2.tape, k2.output⟩, h4, h5, h6⟩
    · intro x rx hx
      by_cases e1 : x = b
      · subst e1
        rw [Own.set_same] at hx; cases hx
        exact ⟨.cells cs e ver fz, o, by rw [AH.get_new, if_pos rfl], u2, u3.plain hcs (Nat.le_refl _) rfl⟩
      · rw [Own.set_other _ _ e1] at hx
        obtain ⟨k, o, q1, q2, q3⟩ := k1.blk x rx hx
        exact ⟨k, o, by rw [AH.get_new, if_neg (Nat.ne_of_lt (k1.fresh x rx hx))]; exact q1, q2, q3.mono hle⟩
    · intro x x' rx rx' k hx hx' hxid hk' hu
      by_cases e1 : x = b <;> by_cases e2 : x' = b
      · rw [e1, e2]
      · subst e1
        rw [Own.set_same] at hx; cases hx
        rw [Own.set_other _ _ e2] at hx'
        have := k1.fresh x' rx' hx'
        simp only at hxid; omega
      · subst e2
        rw [Own.set_same] at hx'; cases hx'
        rw [Own.set_other _ _ e1] at hx
        have := k1.fresh x rx hx
        simp only at hxid; omega
      · rw [Own.set_other _ _ e1] at hx
        rw [Own.set_other _ _ e2] at hx'
        rw [AH.get_new, if_neg (Nat.ne_of_lt (k1.fresh x rx hx))] at hk'
        exact k1.uniq x x' rx rx' k hx hx' hxid hk' hu
    · intro x rx hx
      rw [AH.next_new]
      by_cases e1 : x = b
      · subst e1; rw [Own.set_same] at hx; cases hx; exact Nat.lt_succ_self _
      · rw [Own.set_other _ _ e1] at hx; exact Nat.lt_succ_of_lt (k1.fresh x rx hx)
    · intro g k hgk
      obtain ⟨q1, q2, q3⟩ := k1.gh g k hgk
      refine ⟨by rw [AH.next_new]; omega, by rw [AH.get_new, if_neg (Nat.ne_of_lt q1)]; exact q2, fun x rx hx => ?_⟩
      by_cases e1 : x = b
      · subst e1; rw [Own.set_same] at hx; cases hx; exact Ne.symm (Nat.ne_of_lt q1)
      · rw [Own.set_other _ _ e1] at hx; exact q3 x rx hx
end

/-! ### What the kernel is asked -/
noncomputable def okVal (K : Kit) (v : AV) (r : CR) : Bool :=
  CR.rec (motive := fun _ => Bool) (fun v' H => Bool.rec (motive := fun _ => Bool) false (isTab K.tab K.te H) (avEq v v')) (fun _ _ => false) false r
theorem okVal_ret {K : Kit} {v : AV} {r : CR} (h : okVal K v r = true) : ∃ H, r = .ret v H ∧ isTab K.tab K.te H = true := by
  cases r with
  | ret v' H =>
    obtain ⟨h1, h2⟩ := brec h
    have := avEq_of _ _ h1
    subst this
    exact ⟨H, rfl, h2⟩
  | pan v' H => cases h
  | err => cases h
noncomputable def okBlk (K : Kit) (cs : List AV) (e : TypeId) (off len esz : Nat) (cap : Option Nat) (r : CR) : Bool :=
  CR.rec (motive := fun _ => Bool) (fun v' H => Bool.rec (motive := fun _ => Bool) false (onSlc false false (fun id o l c z => Bool.rec (motive := fun _ => Bool) false
      (Bool.rec (motive := fun _ => Bool) (cellsAt H id false (fun cs' e' ver fz => Bool.rec (motive := fun _ => Bool) false (Bool.rec (motive := fun _ => Bool) false (Bool.rec (motive := fun _ => Bool) false (Nat.beq fz 0) (Nat.beq ver 0)) (Nat.beq e e')) (avsEq cs cs'))) false (Nat.beq id 1))
      (avEq (.slc 0 off len cap esz) (.slc 0 o l c z))) v') (isTab K.tab K.te H)) (fun _ _ => false) false r
theorem onSlc_bool {g : Nat → Nat → Nat → Option Nat → Nat → Bool} {x : AV} (h : onSlc false false g x = true) : ∃ a b c d e, x = .slc a b c d e ∧ g a b c d e = true := by
  cases x <;> first | exact ⟨_, _, _, _, _, rfl, h⟩ | cases h
theorem okBlk_ret {K : Kit} {cs : List AV} {e : TypeId} {off len esz : Nat} {cap : Option Nat} {r : CR} (h : okBlk K cs e off len esz cap r = true) : ∃ id H, r = .ret (.slc id off len cap esz) H ∧ isTab K.tab K.te H = true ∧ id ≠ 1 ∧ H.get id = some (.cells cs e 0 0) := by
  cases r with
  | ret v' H =>
    obtain ⟨h1, h2⟩ := brec h
    obtain ⟨id, o, l, c, z, hv, h3⟩ := onSlc_bool h2
    obtain ⟨h4, h5⟩ := brec h3
    have := avEq_of _ _ h4
    cases this
    subst hv
    cases hid : Nat.beq id 1 with
    | true => rw [hid] at h5; cases h5
    | false =>
      rw [hid] at h5
      obtain ⟨cs', e', ver, fz, hg, h6⟩ := cellsAt_bool h5
      obtain ⟨a, h6⟩ := brec h6
      obtain ⟨b, h6⟩ := brec h6
      obtain ⟨c, d⟩ := brec h6
      have a1 := avsEq_of _ _ a
      have a2 : e = e' := Nat.eq_of_beq_eq_true b
      have a3 : ver = 0 := Nat.eq_of_beq_eq_true c
      have a4 : fz = 0 := Nat.eq_of_beq_eq_true d
      subst a1; subst a2; subst a3; subst a4
      exact ⟨id, H, rfl, h1, by rintro rfl; simp at hid, hg⟩
  | pan v' H => cases h
  | err => cases h
end Go.AM
