/-
  Abstract values and heaps stand for concrete ones; memory, integers, strings, equality. By an AI agent.
-/
import Derived.Test.YtlbpfpffifppiaaGreatDoorAm1
import Derived.Calls
import Derived.Laws.AppendOwn
import Derived.WalkKit
import Derived.Laws.StructEq
namespace Go.AM
open Go

/-! ### Trees -/
theorem Tr.get_leaf {α : Type} (n : Nat) : (Tr.leaf : Tr α).get n = none := rfl
theorem Tr.get_zero {α : Type} (l r : Tr α) (v : Option α) : (Tr.node l v r).get 0 = v := rfl
theorem Tr.get_succ {α : Type} (l r : Tr α) (v : Option α) (m : Nat) : (Tr.node l v r).get (m + 1) = bif Nat.beq (m % 2) 0 then l.get (m / 2) else r.get (m / 2) := by
  show Bool.rec (motive := fun _ => Option α) (r.get (m / 2)) (l.get (m / 2)) (Nat.beq (m % 2) 0) = _
  cases Nat.beq (m % 2) 0 <;> rfl
theorem Tr.set_leaf_zero {α : Type} (x : α) (k : Nat) : Tr.set x (k + 1) .leaf 0 = .node .leaf (some x) .leaf := rfl
theorem Tr.set_leaf_succ {α : Type} (x : α) (k m : Nat) : Tr.set x (k + 1) .leaf (m + 1) = bif Nat.beq (m % 2) 0 then .node (Tr.set x k .leaf (m / 2)) none .leaf else .node .leaf none (Tr.set x k .leaf (m / 2)) := by
  show Bool.rec (motive := fun _ => Tr α) (.node .leaf none (Tr.set x k .leaf (m / 2))) (.node (Tr.set x k .leaf (m / 2)) none .leaf) (Nat.beq (m % 2) 0) = _
  cases Nat.beq (m % 2) 0 <;> rfl
theorem Tr.set_node_zero {α : Type} (x : α) (k : Nat) (l r : Tr α) (v : Option α) : Tr.set x (k + 1) (.node l v r) 0 = .node l (some x) r := rfl
theorem Tr.set_node_succ {α : Type} (x : α) (k m : Nat) (l r : Tr α) (v : Option α) : Tr.set x (k + 1) (.node l v r) (m + 1) = bif Nat.beq (m % 2) 0 then .node (Tr.set x k l (m / 2)) v r else .node l v (Tr.set x k r (m / 2)) := by
  show Bool.rec (motive := fun _ => Tr α) (.node l v (Tr.set x k r (m / 2))) (.node (Tr.set x k l (m / 2)) v r) (Nat.beq (m % 2) 0) = _
  cases Nat.beq (m % 2) 0 <;> rfl
theorem beq_mod (m : Nat) : Nat.beq (m % 2) 0 = decide (m % 2 = 0) := by
  rw [Bool.eq_iff_iff]; simp
theorem Tr.get_set {α : Type} (x : α) : ∀ (k : Nat) (t : Tr α) (n m : Nat), n + 1 < 2 ^ k → (Tr.set x k t n).get m = if m = n then some x else t.get m := by
  intro k
  induction k with
  | zero => intro t n m h; simp at h
  | succ k ih =>
    intro t n m h
    have hp : 2 ^ (k + 1) = 2 * 2 ^ k := by rw [Nat.pow_succ]; omega
    cases n with
    | zero =>
      cases t with
      | leaf => cases m <;> simp [Tr.set_leaf_zero, Tr.get_zero, Tr.get_succ, Tr.get_leaf]
      | node l v r => cases m <;> simp [Tr.set_node_zero, Tr.get_zero, Tr.get_succ]
    | succ n =>
      have hk : n / 2 + 1 < 2 ^ k := by omega
      have key : ∀ (l r : Tr α) (v : Option α), Tr.get (bif Nat.beq (n % 2) 0 then .node (Tr.set x k l (n / 2)) v r else .node l v (Tr.set x k r (n / 2))) m =
          if m = n + 1 then some x else (Tr.node l v r).get m := by
        intro l r v
        rw [beq_mod]
        by_cases h2 : n % 2 = 0
        · simp only [h2, decide_true, cond_true]
          cases m with
          | zero => simp [Tr.get_zero]
          | succ m =>
            simp only [Tr.get_succ, beq_mod]
            by_cases h3 : m % 2 = 0
            · simp only [h3, decide_true, cond_true, ih l _ _ hk]
              by_cases h4 : m / 2 = n / 2
              · have : m = n := by omega
                simp [this]
              · have : m ≠ n := by intro e; exact h4 (by rw [e])
                simp [h4, this]
            · have : m ≠ n := by intro e; exact h3 (by rw [e]; exact h2)
              simp [h3, this]
        · simp only [h2, decide_false, cond_false]
          cases m with
          | zero => simp [Tr.get_zero]
          | succ m =>
            simp only [Tr.get_succ, beq_mod]
            by_cases h3 : m % 2 = 0
            · have : m ≠ n := by intro e; exact h2 (by rw [← e]; exact h3)
              simp [h3, this]
            · simp only [h3, decide_false, cond_false, ih r _ _ hk]
              by_cases h4 : m / 2 = n / 2
              · have : m = n := by omega
                simp [this]
              · have : m ≠ n := by intro e; exact h4 (by rw [e])
                simp [h4, this]
      cases t with
      | leaf =>
        have := key .leaf .leaf none
        rw [Tr.set_leaf_succ, this]
        cases m <;> simp [Tr.get_zero, Tr.get_succ, Tr.get_leaf]
      | node l v r => rw [Tr.set_node_succ]; exact key l r v

theorem Tr.get_setN {α : Type} (x : α) (t : Tr α) (n m : Nat) : (Tr.setN x t n).get m = if m = n then some x else t.get m :=
  Tr.get_set x (n + 1) t n m Nat.lt_two_pow_self

/-! ### Which blocks stand for which abstract ones -/
structure Own1 where
  id : Nat
  m : Nat
  csz : Nat
abbrev Own := Nat → Option Own1

inductive VR (σ : Own) : AV → Value → Prop
  | bool (b : Bool) : VR σ (.bool b) (.bool b)
  | int (k : IntKind) (n : Int) : VR σ (.int k n) (.int k n)
  | flt (k : FloatKind) (n : Nat) : VR σ (.flt k n) (.float k n)
  | str (s : List Nat) (b : ByteArray) : bytesOf b = s → VR σ (.str s) (.string b)
  | nilp : VR σ .nilp (.pointer none)
  | ptr (id off lim b : Nat) (r : Own1) : σ b = some r → r.id = id → lim ≤ r.m → VR σ (.ptr id off lim) (.pointer (some ⟨b, off, none⟩))
  | nils : VR σ .nils (.slice none 0 0)
  | slc (id off len : Nat) (cap : Option Nat) (esz b cap' : Nat) (r : Own1) : σ b = some r → r.id = id → off + len * esz ≤ r.m → len ≤ cap' → (∀ c, cap = some c → cap' = c ∧ off + c * esz ≤ r.m) → off + cap' * esz ≤ r.csz →
      VR σ (.slc id off len cap esz) (.slice (some ⟨b, off, none⟩) len cap')
  | nilm : VR σ .nilm (.map none)
  | map (id b : Nat) (r : Own1) : σ b = some r → r.id = id → VR σ (.map id) (.map (some b))
  | fn (f : FuncId) (first cap : List AV) (first' cap' : Array Value) : first.length = first'.size → (∀ (i : Nat) (x : AV), first[i]? = some x → VR σ x (first'.getD i undef)) →
      cap.length = cap'.size → (∀ (i : Nat) (x : AV), cap[i]? = some x → VR σ x (cap'.getD i undef)) → VR σ (.fn (.func f) first cap) (.func (.func f) first' cap')
  | yld (id b : Nat) (r : Own1) : σ b = some r → r.id = id → VR σ (.fn (.yield id) [] []) (.func (.yield b) #[] #[])
  | nilf : VR σ .nilf .nilFunc
  | ifc (t : TypeId) (x : AV) (y : Value) : VR σ x y → VR σ (.ifc t x) (.iface t y)
  | nili : VR σ .nili .nilIface
  | agg (cs : List AV) (ys : Array Value) : cs.length = ys.size → (∀ (i : Nat) (x : AV), cs[i]? = some x → VR σ x (ys.getD i undef)) → VR σ (.agg cs) (.agg ys)
  | tup (cs : List AV) (ys : Array Value) : cs.length = ys.size → (∀ (i : Nat) (x : AV), cs[i]? = some x → VR σ x (ys.getD i undef)) → VR σ (.tup cs) (.tuple ys)
  | junk (y : Value) : VR σ .junk y

def Own.le (σ σ' : Own) : Prop := ∀ b r, σ b = some r → ∃ r', σ' b = some r' ∧ r'.id = r.id ∧ r.m ≤ r'.m ∧ r'.csz = r.csz
theorem Own.le_refl (σ : Own) : σ.le σ := fun _ r h => ⟨r, h, rfl, Nat.le_refl _, rfl⟩
theorem Own.le_trans {a b c : Own} (h : a.le b) (k : b.le c) : a.le c := fun x r hx =>
  let ⟨r', h1, h2, h3, h4⟩ := h x r hx
  let ⟨r'', k1, k2, k3, k4⟩ := k x r' h1
  ⟨r'', k1, k2.trans h2, Nat.le_trans h3 k3, k4.trans h4⟩

theorem VR.mono {σ σ' : Own} (h : σ.le σ') {x : AV} {y : Value} (hv : VR σ x y) : VR σ' x y := by
  induction hv with
  | bool b => exact .bool b
  | int k n => exact .int k n
  | flt k n => exact .flt k n
  | str s b e => exact .str s b e
  | nilp => exact .nilp
  | ptr id off lim b r h1 h2 h3 =>
    obtain ⟨r', e, e2, e3, _⟩ := h _ _ h1
    exact .ptr id off lim b r' e (e2.trans h2) (Nat.le_trans h3 e3)
  | nils => exact .nils
  | slc id off len cap esz b cap' r h1 h2 h3 h4 h5 h6 =>
    obtain ⟨r', e, e2, e3, e4⟩ := h _ _ h1
    exact .slc id off len cap esz b cap' r' e (e2.trans h2) (Nat.le_trans h3 e3) h4 (fun c hc => ⟨(h5 c hc).1, Nat.le_trans (h5 c hc).2 e3⟩) (by rw [e4]; exact h6)
  | nilm => exact .nilm
  | map id b r h1 h2 =>
    obtain ⟨r', e, e2, _⟩ := h _ _ h1
    exact .map id b r' e (e2.trans h2)
  | fn f a b c d h1 _ h3 _ i2 i4 => exact .fn f a b c d h1 i2 h3 i4
  | yld id b r h1 h2 =>
    obtain ⟨r', e, e2, _⟩ := h _ _ h1
    exact .yld id b r' e (e2.trans h2)
  | nilf => exact .nilf
  | ifc t x y _ ih => exact .ifc t x y ih
  | nili => exact .nili
  | agg cs ys h1 _ ih => exact .agg cs ys h1 ih
  | tup cs ys h1 _ ih => exact .tup cs ys h1 ih
  | junk y => exact .junk y

/-- Lists of values, cell by cell. -/
def LR (σ : Own) (cs : List AV) (ys : List Value) : Prop := cs.length = ys.length ∧ ∀ (i : Nat) (x : AV), cs[i]? = some x → ∃ y, ys[i]? = some y ∧ VR σ x y

theorem LR.mono {σ σ' : Own} (h : σ.le σ') {cs : List AV} {ys : List Value} (hv : LR σ cs ys) : LR σ' cs ys :=
  ⟨hv.1, fun i x e => let ⟨y, h1, h2⟩ := hv.2 i x e; ⟨y, h1, h2.mono h⟩⟩
theorem LR.nil (σ : Own) : LR σ [] [] := ⟨rfl, fun i x e => by simp at e⟩
theorem LR.cons {σ : Own} {x : AV} {y : Value} {cs : List AV} {ys : List Value} (h : VR σ x y) (hs : LR σ cs ys) : LR σ (x :: cs) (y :: ys) :=
  ⟨by simp [hs.1], fun i z e => by
    cases i with
    | zero => simp at e; subst e; exact ⟨y, rfl, h⟩
    | succ i => simp at e; obtain ⟨u, h1, h2⟩ := hs.2 i z e; exact ⟨u, by simpa using h1, h2⟩⟩
theorem LR.uncons {σ : Own} {x : AV} {cs : List AV} {ys : List Value} (h : LR σ (x :: cs) ys) : ∃ y ys', ys = y :: ys' ∧ VR σ x y ∧ LR σ cs ys' := by
  cases ys with
  | nil => have := h.1; simp at this
  | cons y ys =>
    refine ⟨y, ys, rfl, ?_, ⟨by have := h.1; simpa using this, fun i z e => ?_⟩⟩
    · obtain ⟨u, h1, h2⟩ := h.2 0 x rfl
      simp at h1; subst h1; exact h2
    · obtain ⟨u, h1, h2⟩ := h.2 (i + 1) z (by simpa using e)
      exact ⟨u, by simpa using h1, h2⟩
theorem LR.unnil {σ : Own} {ys : List Value} (h : LR σ [] ys) : ys = [] := by
  have := h.1; cases ys <;> simp_all
theorem LR.append {σ : Own} {cs ds : List AV} {ys zs : List Value} (h : LR σ cs ys) (k : LR σ ds zs) : LR σ (cs ++ ds) (ys ++ zs) := by
  refine ⟨by simp [h.1, k.1], fun i x e => ?_⟩
  by_cases hi : i < cs.length
  · rw [List.getElem?_append_left hi] at e
    obtain ⟨y, h1, h2⟩ := h.2 i x e
    exact ⟨y, by rw [List.getElem?_append_left (by rw [← h.1]; exact hi)]; exact h1, h2⟩
  · rw [List.getElem?_append_right (by omega)] at e
    obtain ⟨y, h1, h2⟩ := k.2 _ x e
    exact ⟨y, by rw [List.getElem?_append_right (by rw [← h.1]; omega), ← h.1]; exact h1, h2⟩
theorem LR.take {σ : Own} {cs : List AV} {ys : List Value} (h : LR σ cs ys) (n : Nat) : LR σ (cs.take n) (ys.take n) := by
  refine ⟨by simp [h.1], fun i x e => ?_⟩
  rw [List.getElem?_take] at e
  split at e
  · obtain ⟨y, h1, h2⟩ := h.2 i x e
    exact ⟨y, by rw [List.getElem?_take, if_pos (by assumption)]; exact h1, h2⟩
  · cases e
theorem LR.drop {σ : Own} {cs : List AV} {ys : List Value} (h : LR σ cs ys) (n : Nat) : LR σ (cs.drop n) (ys.drop n) := by
  refine ⟨by simp [h.1], fun i x e => ?_⟩
  rw [List.getElem?_drop] at e
  obtain ⟨y, h1, h2⟩ := h.2 _ x e
  exact ⟨y, by rw [List.getElem?_drop]; exact h1, h2⟩
theorem LR.map {σ : Own} {α : Type} (f : α → AV) (g : α → Value) (h : ∀ a, VR σ (f a) (g a)) (l : List α) : LR σ (l.map f) (l.map g) := by
  induction l with
  | nil => exact LR.nil σ
  | cons a l ih => exact LR.cons (h a) ih
theorem LR.of_arr {σ : Own} {cs : List AV} {ys : Array Value} (h1 : cs.length = ys.size) (h2 : ∀ (i : Nat) (x : AV), cs[i]? = some x → VR σ x (ys.getD i undef)) : LR σ cs ys.toList := by
  refine ⟨by simpa using h1, fun i x e => ?_⟩
  have hi : i < ys.size := by rw [← h1]; exact (List.getElem?_eq_some_iff.1 e).1
  have := h2 i x e
  refine ⟨ys[i], by simp [hi], ?_⟩
  rwa [Array.getD, dif_pos hi] at this
theorem LR.to_arr {σ : Own} {cs : List AV} {ys : Array Value} (h : LR σ cs ys.toList) : cs.length = ys.size ∧ ∀ (i : Nat) (x : AV), cs[i]? = some x → VR σ x (ys.getD i undef) := by
  refine ⟨by simpa using h.1, fun i x e => ?_⟩
  obtain ⟨y, h1, h2⟩ := h.2 i x e
  simp at h1
  rw [Array.getD_eq_getD_getElem?, h1]; exact h2
theorem VR.agg' {σ : Own} {cs : List AV} {ys : Array Value} (h : LR σ cs ys.toList) : VR σ (.agg cs) (.agg ys) := .agg cs ys h.to_arr.1 h.to_arr.2
theorem VR.tup' {σ : Own} {cs : List AV} {ys : Array Value} (h : LR σ cs ys.toList) : VR σ (.tup cs) (.tuple ys) := .tup cs ys h.to_arr.1 h.to_arr.2
theorem VR.fn' {σ : Own} {f : FuncId} {a b : List AV} {c d : Array Value} (h : LR σ a c.toList) (k : LR σ b d.toList) : VR σ (.fn (.func f) a b) (.func (.func f) c d) :=
  .fn f a b c d h.to_arr.1 h.to_arr.2 k.to_arr.1 k.to_arr.2
theorem VR.agg_inv {σ : Own} {cs : List AV} {y : Value} (h : VR σ (.agg cs) y) : ∃ ys : Array Value, y = .agg ys ∧ LR σ cs ys.toList := by
  cases h with | agg _ ys h1 h2 => exact ⟨ys, rfl, LR.of_arr h1 h2⟩
theorem VR.tup_inv {σ : Own} {cs : List AV} {y : Value} (h : VR σ (.tup cs) y) : ∃ ys : Array Value, y = .tuple ys ∧ LR σ cs ys.toList := by
  cases h with | tup _ ys h1 h2 => exact ⟨ys, rfl, LR.of_arr h1 h2⟩
theorem VR.fn_inv {σ : Own} {f : FuncId} {a b : List AV} {y : Value} (h : VR σ (.fn (.func f) a b) y) : ∃ c d : Array Value, y = .func (.func f) c d ∧ LR σ a c.toList ∧ LR σ b d.toList := by
  cases h with | fn _ _ _ c d h1 h2 h3 h4 => exact ⟨c, d, rfl, LR.of_arr h1 h2, LR.of_arr h3 h4⟩

/-! ### Constants -/
theorem cell1_VR (σ : Own) (v : Value) : VR σ (cell1 v) v := by
  unfold cell1
  split <;> first | exact .bool _ | exact .int _ _ | exact .flt _ _ | exact .str _ _ rfl | exact .nilp | exact .nils | exact .nilm | exact .nilf | exact .nili | exact .junk _
theorem ofValue_VR (σ : Own) (v : Value) : VR σ (ofValue v) v := by
  unfold ofValue
  split
  · exact .agg' (by
      rename_i cs
      have := LR.map (σ := σ) cell1 id (fun a => cell1_VR σ a) cs.toList
      simpa using this)
  · exact .tup' (by
      rename_i cs
      have := LR.map (σ := σ) cell1 id (fun a => cell1_VR σ a) cs.toList
      simpa using this)
  · exact cell1_VR σ v
theorem cell1_LR (σ : Own) (l : List Value) : LR σ (l.map cell1) l := by
  have := LR.map (σ := σ) cell1 id (fun a => cell1_VR σ a) l
  simpa using this
end Go.AM
namespace Go.AM
open Go

def TR (σ : Own) (nt : Nat) (T : Tm) (tmps : Array Value) : Prop := tmps.size = nt ∧ ∀ t, VR σ (Tm.at T t) (tmps.getD t undef)
theorem TR.mono {σ σ' : Own} (h : σ.le σ') {nt : Nat} {T : Tm} {a : Array Value} (k : TR σ nt T a) : TR σ' nt T a := ⟨k.1, fun t => (k.2 t).mono h⟩

def stateNo : LoopState → Nat
  | .ready => 0
  | .busy => 1
  | .done => 2
  | .exhausted => 3

structure ER (σ : Own) (e : AV × AV × Nat) (x : MapEntry) : Prop where
  key : VR σ e.1 x.key
  val : VR σ e.2.1 x.val
  born : x.born = e.2.2

/-- A block, and what it stands for. -/
def BR (σ : Own) (k : ABlk) (r : Own1) (o : Obj) : Prop :=
  match k with
  | .cells cs e _ fz => ∃ (c : Array Value) (fr : Nat × Nat), o = .cells c e fr ∧ c.size = r.csz ∧ r.m ≤ cs.length ∧ r.m ≤ r.csz ∧
      (∀ (i : Nat) (x : AV), i < r.m → cs[i]? = some x → VR σ x (c.getD i undef)) ∧ (fr.1 = fr.2 ∨ fr.2 ≤ fz) ∧ (fz = 0 → fr = (0, 0))
  | .map es clock => ∃ l : Array MapEntry, o = .map l clock ∧ es.length = l.size ∧ (∀ (i : Nat) (e : AV × AV × Nat), es[i]? = some e → ∃ x : MapEntry, l[i]? = some x ∧ ER σ e x)
  | .iter m since seen stepped => ∃ m' : Option Nat, o = .mapIter m' since seen.toArray stepped ∧ (match m with | none => m' = none | some id => ∃ b r', m' = some b ∧ σ b = some r' ∧ r'.id = id)
  | .siter s pos => ∃ b : ByteArray, o = .stringIter b pos ∧ bytesOf b = s
  | .loop st pe _ nt T ps asg body dl => ∃ l : Loop, o = .loop l ∧ stateNo l.state = st ∧ l.pending = pe ∧ TR σ nt T l.tmps ∧ l.params = ps ∧ l.assign = asg ∧ l.body = body ∧ (∃ r', σ l.defers = some r' ∧ r'.id = dl)
  | .dlist taken => o = .deferred (if taken then none else some [])

theorem BR.mono {σ σ' : Own} (h : σ.le σ') {k : ABlk} {r : Own1} {o : Obj} (hb : BR σ k r o) : BR σ' k r o := by
  cases k with
  | cells cs e v fz =>
    obtain ⟨c, fr, rfl, h1, h2, h3, h4, h5⟩ := hb
    exact ⟨c, fr, rfl, h1, h2, h3, fun i x hi hx => (h4 i x hi hx).mono h, h5⟩
  | map es clock =>
    obtain ⟨l, rfl, h1, h2⟩ := hb
    exact ⟨l, rfl, h1, fun i e he => let ⟨x, k1, k2⟩ := h2 i e he; ⟨x, k1, k2.1.mono h, k2.2.mono h, k2.3⟩⟩
  | iter m since seen stepped =>
    obtain ⟨m', rfl, h1⟩ := hb
    refine ⟨m', rfl, ?_⟩
    cases m with
    | none => exact h1
    | some id =>
      obtain ⟨b, r', e, k1, k2⟩ := h1
      obtain ⟨r'', j1, j2, _⟩ := h _ _ k1
      exact ⟨b, r'', e, j1, j2.trans k2⟩
  | siter s pos => obtain ⟨b, h1, h2⟩ := hb; exact ⟨b, h1, h2⟩
  | loop st pe f nt T ps asg body dl =>
    obtain ⟨l, rfl, h1, h2, h3, h4, h5, h6, r', h7, h8⟩ := hb
    obtain ⟨r'', j1, j2, _⟩ := h _ _ h7
    exact ⟨l, rfl, h1, h2, h3.mono h, h4, h5, h6, r'', j1, j2.trans h8⟩
  | dlist t => have h1 : o = _ := hb; exact h1

/-- When must two blocks that stand for one be the same? -/
def UQ : ABlk → Own1 → Own1 → Prop
  | .cells _ _ ver _, r, r' => ∃ i, ver ≤ i ∧ i < r.m ∧ i < r'.m
  | _, _, _ => True

/-- Ghosts: abstract blocks that no concrete one stands for (as yet). -/
abbrev Gh := Nat → Option ABlk

structure Sim (G : Gh) (σ : Own) (H : AH) (w : World) : Prop where
  blk : ∀ b r, σ b = some r → ∃ k o, H.get r.id = some k ∧ w.heap[b]? = some o ∧ BR σ k r o
  uniq : ∀ b b' r r' k, σ b = some r → σ b' = some r' → r.id = r'.id → H.get r.id = some k → UQ k r r' → b = b'
  fresh : ∀ b r, σ b = some r → r.id < H.next
  gh : ∀ g k, G g = some k → g < H.next ∧ H.get g = some k ∧ ∀ b r, σ b = some r → r.id ≠ g

/-- What reading needs: each block that the abstract heap has is there. -/
structure SimR (σ : Own) (H : AH) (w : World) : Prop where
  blk : ∀ b r k, σ b = some r → H.get r.id = some k → ∃ o, w.heap[b]? = some o ∧ BR σ k r o
theorem Sim.toR {G : Gh} {σ : Own} {H : AH} {w : World} (h : Sim G σ H w) : SimR σ H w := ⟨fun b r k hr hk => by
  obtain ⟨k', o, h1, h2, h3⟩ := h.blk b r hr
  rw [hk] at h1
  cases h1
  exact ⟨o, h2, h3⟩⟩
instance {G : Gh} {σ : Own} {H : AH} {w : World} : CoeOut (Sim G σ H w) (SimR σ H w) := ⟨Sim.toR⟩

variable {G : Gh}
theorem Sim.lt {σ : Own} {H : AH} {w : World} (h : Sim G σ H w) {b : Nat} {r : Own1} (e : σ b = some r) : b < w.heap.size := by
  obtain ⟨k, o, _, h2, _⟩ := h.blk b r e
  exact (Array.getElem?_eq_some_iff.1 h2).1

structure Grw (σ σ' : Own) (w w' : World) : Prop where
  le : σ.le σ'
  size : w.heap.size ≤ w'.heap.size
  keep : ∀ b, b < w.heap.size → σ b = none → w'.heap[b]? = w.heap[b]? ∧ σ' b = none
  os : w'.os = w.os
  tape : w'.tape = w.tape
  output : w'.output = w.output
theorem Grw.refl (σ : Own) (w : World) : Grw σ σ w w := ⟨Own.le_refl σ, Nat.le_refl _, fun _ _ h => ⟨rfl, h⟩, rfl, rfl, rfl⟩
theorem Grw.trans {a b c : Own} {u v w : World} (h : Grw a b u v) (k : Grw b c v w) : Grw a c u w :=
  ⟨Own.le_trans h.le k.le, Nat.le_trans h.size k.size, fun x hx hn => by
    obtain ⟨h1, h2⟩ := h.keep x hx hn
    obtain ⟨k1, k2⟩ := k.keep x (Nat.lt_of_lt_of_le hx h.size) h2
    exact ⟨k1.trans h1, k2⟩, k.os.trans h.os, k.tape.trans h.tape, k.output.trans h.output⟩
/-- A draw changes nothing. -/
theorem Sim.drew {σ : Own} {H : AH} {w : World} (h : Sim G σ H w) : Sim G σ H w.drew := ⟨h.blk, h.uniq, h.fresh, h.gh⟩
theorem Grw.drew (σ : Own) (w : World) : Grw σ σ w w.drew := ⟨Own.le_refl σ, Nat.le_refl _, fun _ _ h => ⟨rfl, h⟩, rfl, rfl, rfl⟩

theorem AH.get_put (H : AH) (i : Nat) (k : ABlk) (j : Nat) : (H.put i k).get j = if j = i then some k else H.get j := by
  cases H; exact Tr.get_setN k _ i j
theorem AH.get_new (H : AH) (k : ABlk) (j : Nat) : (H.new k).get j = if j = H.next then some k else H.get j := by
  cases H; exact Tr.get_setN k _ _ j
theorem AH.next_put (H : AH) (i : Nat) (k : ABlk) : (H.put i k).next = H.next := by cases H; rfl
theorem AH.next_new (H : AH) (k : ABlk) : (H.new k).next = H.next + 1 := by cases H; rfl

def Own.set (σ : Own) (b : Nat) (r : Own1) : Own := fun x => if x = b then some r else σ x
theorem Own.set_same (σ : Own) (b : Nat) (r : Own1) : σ.set b r b = some r := by simp [Own.set]
theorem Own.set_other (σ : Own) {b x : Nat} (r : Own1) (h : x ≠ b) : σ.set b r x = σ x := by simp [Own.set, h]
theorem Own.le_set_new (σ : Own) {b : Nat} (r : Own1) (h : σ b = none) : σ.le (σ.set b r) := fun x r' hx =>
  ⟨r', by rw [Own.set_other _ _ (by rintro rfl; rw [h] at hx; cases hx)]; exact hx, rfl, Nat.le_refl _, rfl⟩

theorem alloc_size (w : World) (o : Obj) : (w.alloc o).heap.size = w.heap.size + 1 := by rw [World.alloc]; simp
theorem alloc_new (w : World) (o : Obj) : (w.alloc o).heap[w.heap.size]? = some o := by rw [World.alloc]; simp
theorem alloc_old (w : World) (o : Obj) {b : Nat} (h : b < w.heap.size) : (w.alloc o).heap[b]? = w.heap[b]? := by
  rw [World.alloc]; simp [Array.getElem?_push, Nat.ne_of_lt h]

/-- A NEW BLOCK. -/
theorem Sim.new {σ : Own} {H : AH} {w : World} (h : Sim G σ H w) (k : ABlk) (o : Obj) (m csz : Nat)
    (hb : BR (σ.set w.heap.size ⟨H.next, m, csz⟩) k ⟨H.next, m, csz⟩ o) :
    Sim G (σ.set w.heap.size ⟨H.next, m, csz⟩) (H.new k) (w.alloc o) ∧ Grw σ (σ.set w.heap.size ⟨H.next, m, csz⟩) w (w.alloc o) := by
  have hnone : σ w.heap.size = none := by
    cases e : σ w.heap.size with
    | none => rfl
    | some r => exact absurd (h.lt e) (Nat.lt_irrefl _)
  have hle : σ.le (σ.set w.heap.size ⟨H.next, m, csz⟩) := Own.le_set_new σ _ hnone
  refine ⟨⟨?_, ?_, ?_, ?_⟩, ⟨hle, by rw [alloc_size]; omega, ?_, rfl, rfl, rfl⟩⟩
  · intro b r hr
    by_cases e : b = w.heap.size
    · subst e
      rw [Own.set_same] at hr; cases hr
      exact ⟨k, o, by rw [AH.get_new]; simp, alloc_new w o, hb⟩
    · rw [Own.set_other _ _ e] at hr
      obtain ⟨k', o', h1, h2, h3⟩ := h.blk b r hr
      have hid := h.fresh b r hr
      exact ⟨k', o', by rw [AH.get_new, if_neg (Nat.ne_of_lt hid)]; exact h1, by rw [alloc_old w o (h.lt hr)]; exact h2, h3.mono hle⟩
  · intro b b' r r' k' hr hr' hid hk hu
    by_cases e : b = w.heap.size <;> by_cases e' : b' = w.heap.size
    · rw [e, e']
    · subst e
      rw [Own.set_same] at hr; cases hr
      rw [Own.set_other _ _ e'] at hr'
      have := h.fresh b' r' hr'
      simp only at hid; omega
    · subst e'
      rw [Own.set_same] at hr'; cases hr'
      rw [Own.set_other _ _ e] at hr
      have := h.fresh b r hr
      simp only at hid; omega
    · rw [Own.set_other _ _ e] at hr
      rw [Own.set_other _ _ e'] at hr'
      rw [AH.get_new, if_neg (Nat.ne_of_lt (h.fresh b r hr))] at hk
      exact h.uniq b b' r r' k' hr hr' hid hk hu
  · intro b r hr
    rw [AH.next_new]
    by_cases e : b = w.heap.size
    · subst e; rw [Own.set_same] at hr; cases hr; exact Nat.lt_succ_self _
    · rw [Own.set_other _ _ e] at hr; exact Nat.lt_succ_of_lt (h.fresh b r hr)
  · intro g k' hg
    obtain ⟨g1, g2, g3⟩ := h.gh g k' hg
    refine ⟨by rw [AH.next_new]; omega, by rw [AH.get_new, if_neg (Nat.ne_of_lt g1)]; exact g2, fun b r hr => ?_⟩
    by_cases e : b = w.heap.size
    · subst e; rw [Own.set_same] at hr; cases hr; exact Ne.symm (Nat.ne_of_lt g1)
    · rw [Own.set_other _ _ e] at hr; exact g3 b r hr
  · intro b hb' hn
    exact ⟨alloc_old w o hb', by rw [Own.set_other _ _ (Nat.ne_of_lt hb')]; exact hn⟩

/-- ONE BLOCK IS TURNED: the abstract one, and the one of its blocks that is written; what other versions of it hold abides. -/
theorem Sim.turn {σ : Own} {H : AH} {w : World} (h : Sim G σ H w) {b : Nat} {r : Own1} (hr : σ b = some r) (k' : ABlk) (m' : Nat) (hm : r.m ≤ m') (w' : World)
    (hsize : w'.heap.size = w.heap.size) (hoth : ∀ x, x ≠ b → w'.heap[x]? = w.heap[x]?) (hos : w'.os = w.os) (htape : w'.tape = w.tape) (hout : w'.output = w.output)
    (o' : Obj) (ho : w'.heap[b]? = some o') (hb : BR (σ.set b ⟨r.id, m', r.csz⟩) k' ⟨r.id, m', r.csz⟩ o')
    (hv : ∀ x rx o, x ≠ b → σ x = some rx → rx.id = r.id → w.heap[x]? = some o → (∀ k, H.get r.id = some k → BR σ k rx o → BR (σ.set b ⟨r.id, m', r.csz⟩) k' rx o))
    (hu : ∀ x x' rx rx', (σ.set b ⟨r.id, m', r.csz⟩) x = some rx → (σ.set b ⟨r.id, m', r.csz⟩) x' = some rx' → rx.id = r.id → rx'.id = r.id → UQ k' rx rx' → x = x') :
    Sim G (σ.set b ⟨r.id, m', r.csz⟩) (H.put r.id k') w' ∧ Grw σ (σ.set b ⟨r.id, m', r.csz⟩) w w' := by
  have hle : σ.le (σ.set b ⟨r.id, m', r.csz⟩) := fun x rx hx => by
    by_cases e : x = b
    · subst e; rw [hr] at hx; cases hx; exact ⟨_, Own.set_same _ _ _, rfl, hm, rfl⟩
    · exact ⟨rx, by rw [Own.set_other _ _ e]; exact hx, rfl, Nat.le_refl _, rfl⟩
  refine ⟨⟨?_, ?_, ?_, ?_⟩, ⟨hle, by omega, ?_, hos, htape, hout⟩⟩
  · intro x rx hx
    by_cases e : x = b
    · subst e
      rw [Own.set_same] at hx; cases hx
      exact ⟨k', o', by rw [AH.get_put]; simp, ho, hb⟩
    · rw [Own.set_other _ _ e] at hx
      obtain ⟨k, o, h1, h2, h3⟩ := h.blk x rx hx
      by_cases hid : rx.id = r.id
      · exact ⟨k', o, by rw [AH.get_put, if_pos hid], by rw [hoth x e]; exact h2, hv x rx o e hx hid h2 k (by rw [← hid]; exact h1) h3⟩
      · exact ⟨k, o, by rw [AH.get_put, if_neg hid]; exact h1, by rw [hoth x e]; exact h2, h3.mono hle⟩
  · intro x x' rx rx' k hx hx' hid hk huq
    by_cases hi : rx.id = r.id
    · rw [AH.get_put, if_pos hi] at hk; cases hk
      exact hu x x' rx rx' hx hx' hi (hid.symm.trans hi) huq
    · rw [AH.get_put, if_neg hi] at hk
      have e : x ≠ b := by rintro rfl; rw [Own.set_same] at hx; cases hx; exact hi rfl
      have e' : x' ≠ b := by rintro rfl; rw [Own.set_same] at hx'; cases hx'; exact hi hid
      rw [Own.set_other _ _ e] at hx
      rw [Own.set_other _ _ e'] at hx'
      exact h.uniq x x' rx rx' k hx hx' hid hk huq
  · intro x rx hx
    rw [AH.next_put]
    by_cases e : x = b
    · subst e; rw [Own.set_same] at hx; cases hx; exact h.fresh x r hr
    · rw [Own.set_other _ _ e] at hx; exact h.fresh x rx hx
  · intro g k0 hg
    obtain ⟨g1, g2, g3⟩ := h.gh g k0 hg
    refine ⟨by rw [AH.next_put]; exact g1, by rw [AH.get_put, if_neg (Ne.symm (g3 b r hr))]; exact g2, fun x rx hx => ?_⟩
    by_cases e : x = b
    · subst e; rw [Own.set_same] at hx; cases hx; exact g3 x r hr
    · rw [Own.set_other _ _ e] at hx; exact g3 x rx hx
  · intro x hx hn
    have e : x ≠ b := by rintro rfl; rw [hr] at hn; cases hn
    exact ⟨hoth x e, by rw [Own.set_other _ _ e]; exact hn⟩

theorem Own.set_self (σ : Own) {b : Nat} {r : Own1} (h : σ b = some r) : σ.set b ⟨r.id, r.m, r.csz⟩ = σ := by
  funext x; by_cases e : x = b
  · subst e; rw [Own.set_same, h]
  · rw [Own.set_other _ _ e]

/-- A block that is no row of cells is turned. -/
theorem Sim.turnObj {σ : Own} {H : AH} {w : World} (h : Sim G σ H w) {b : Nat} {r : Own1} (hr : σ b = some r) {k : ABlk} (hk : H.get r.id = some k)
    (hk1 : ∀ a c, UQ k a c) (k' : ABlk) (o' : Obj) (hb : BR σ k' r o') :
    Sim G σ (H.put r.id k') { w with heap := w.heap.setIfInBounds b o' } ∧ Grw σ σ w { w with heap := w.heap.setIfInBounds b o' } := by
  have hlt := h.lt hr
  have := h.turn hr k' r.m (Nat.le_refl _) { w with heap := w.heap.setIfInBounds b o' } (by simp) (fun x hx => by simp [Ne.symm hx]) rfl rfl rfl o'
    (by simp [hlt]) (by rw [Own.set_self σ hr]; exact hb)
    (fun x rx o hx hxr hid ho k0 hk0 _ => absurd (h.uniq x b rx r k hxr hr hid (by rw [hid]; exact hk) (hk1 _ _)) hx)
    (fun x x' rx rx' hx hx' hid hid' _ => by
      rw [Own.set_self σ hr] at hx hx'
      exact h.uniq x x' rx rx' k hx hx' (hid.trans hid'.symm) (by rw [hid]; exact hk) (hk1 _ _))
  rwa [Own.set_self σ hr] at this

theorem overwrite_length : ∀ (cs : List AV) (n : Nat) (l : List AV), (overwrite cs n l).length = cs.length
  | [], _, _ => by simp [overwrite]
  | c :: cs, n + 1, l => by simp [overwrite, overwrite_length cs n l]
  | c :: cs, 0, [] => by simp [overwrite]
  | c :: cs, 0, x :: l => by simp [overwrite, overwrite_length cs 0 l]
theorem overwrite_get : ∀ (cs : List AV) (n : Nat) (l : List AV) (i : Nat), n + l.length ≤ cs.length →
    (overwrite cs n l)[i]? = if n ≤ i ∧ i < n + l.length then l[i - n]? else cs[i]?
  | [], n, l, i, h => by
    have : l = [] := by cases l <;> simp_all
    subst this; simp [overwrite]
  | c :: cs, n + 1, l, i, h => by
    cases i with
    | zero => simp [overwrite]
    | succ i =>
      simp only [overwrite, List.getElem?_cons_succ]
      rw [overwrite_get cs n l i (by simp at h; omega)]
      simp only [Nat.add_sub_add_right]
      by_cases hc : n ≤ i ∧ i < n + l.length
      · rw [if_pos hc, if_pos (by omega)]
      · rw [if_neg hc, if_neg (by omega)]
  | c :: cs, 0, [], i, h => by simp [overwrite]
  | c :: cs, 0, x :: l, i, h => by
    cases i with
    | zero => simp [overwrite]
    | succ i =>
      simp only [overwrite, List.getElem?_cons_succ]
      rw [overwrite_get cs 0 l i (by simp at h; omega)]
      simp only [Nat.zero_le, Nat.zero_add, true_and, List.length_cons, Nat.add_lt_add_iff_right, Nat.sub_zero, List.getElem?_cons_succ]
end Go.AM
namespace Go.AM
open Go
variable {G : Gh}
variable {P : Program}

theorem bif_none {α : Type} {c : Bool} {a : Option α} {x : α} (h : (bif c then none else a) = some x) : c = false ∧ a = some x := by
  cases c with
  | true => cases h
  | false => exact ⟨rfl, h⟩
theorem bif_some {α : Type} {c : Bool} {a : Option α} {x : α} (h : (bif c then a else none) = some x) : c = true ∧ a = some x := by
  cases c with
  | true => exact ⟨rfl, h⟩
  | false => cases h

theorem add_none (b off j : Nat) : (⟨b, off, none⟩ : Addr).add j = ⟨b, off + j, none⟩ := by
  unfold Addr.add; split <;> simp_all

theorem cell_of {w : World} {b : Nat} {c : Array Value} {e : TypeId} {fr : Nat × Nat} (h : w.heap[b]? = some (.cells c e fr)) (j : Nat) : w.cell? ⟨b, j, none⟩ = c[j]? := by
  simp [World.cell?, h]

/-- The cells that an abstract load finds. -/
theorem cells_at {σ : Own} {H : AH} {w : World} (h : SimR σ H w) {id off n lim : Nat} {l : List AV} (hl : loadCells H id off n lim = some l)
    {b : Nat} {r : Own1} (hr : σ b = some r) (hid : r.id = id) (hlim : lim ≤ r.m) :
    ∃ ys : List Value, ys.length = n ∧ (∀ j v, ys[j]? = some v → w.cell? ((⟨b, off, none⟩ : Addr).add j) = some v) ∧ LR σ l ys := by
  unfold loadCells at hl
  cases hk : H.get id with
  | none => rw [hk] at hl; cases hl
  | some k =>
  obtain ⟨o, h2, h3⟩ := h.blk b r k hr (by rw [hid]; exact hk)
  rw [hk] at hl
  cases k with
  | cells cs e ver fz =>
    obtain ⟨c, fr, rfl, c1, c2, c3, c4, _⟩ := h3
    simp only at hl
    obtain ⟨hc, hl⟩ := bif_some hl
    · cases hl
      simp only [Bool.and_eq_true, Nat.ble_eq, Nat.beq_eq] at hc
      obtain ⟨ha, hb⟩ := hc
      have hn : off + n ≤ r.m := Nat.le_trans ha hlim
      refine ⟨(List.range n).map (fun j => c.getD (off + j) undef), by simp, ?_, ?_⟩
      · intro j v hv
        rw [add_none, cell_of h2]
        simp only [List.getElem?_map, Option.map_eq_some_iff] at hv
        obtain ⟨x, hx, rfl⟩ := hv
        obtain ⟨hlt, rfl⟩ := List.getElem?_eq_some_iff.1 hx
        simp at hlt
        have hj : off + j < c.size := by omega
        simp [Array.getD, hj]
      · refine ⟨by simp [hb], fun i x hx => ?_⟩
        rw [List.getElem?_take] at hx
        split at hx
        · rename_i hi
          rw [List.getElem?_drop] at hx
          exact ⟨c.getD (off + i) undef, by simp [hi], c4 _ _ (by omega) hx⟩
        · cases hx
  | _ => simp at hl

theorem run_loadCells_at {σ : Own} {H : AH} {w : World} (h : SimR σ H w) {id off n lim : Nat} {l : List AV} (hl : loadCells H id off n lim = some l)
    {b : Nat} {r : Own1} (hr : σ b = some r) (hid : r.id = id) (hlim : lim ≤ r.m) :
    ∃ ys : Array Value, (Go.loadCells ⟨b, off, none⟩ n).run P w = .ok ys w ∧ LR σ l ys.toList := by
  obtain ⟨ys, h1, h2, h3⟩ := cells_at h hl hr hid hlim
  refine ⟨ys.toArray, ?_, h3⟩
  have := run_loadCells_list (P := P) w ⟨b, off, none⟩ ys h2
  rwa [h1] at this

theorem run_isAgg' (t : TypeId) (w : World) (d : TypeDesc) (h : P.underlying t = some d) : (isAgg t).run P w = .ok (isAggT P t) w := by
  unfold isAgg isAggT
  simp only [Sem.run_bind, run_underlying h, Result.andThen_ok, h]
  cases d <;> rfl
theorem run_sizeOf' (t : TypeId) (w : World) (n : Nat) (h : sizeT P t = some n) : (sizeOf t).run P w = .ok n w := by
  unfold sizeT at h
  split at h
  · rename_i i hi; cases h
    simp [sizeOf, typeInfo, hi]
  · cases h
theorem sizeT_some {t : TypeId} {n : Nat} (h : sizeT P t = some n) : ∃ i, P.info? t = some i ∧ i.size = n := by
  unfold sizeT at h
  split at h
  · rename_i i hi; cases h; exact ⟨i, hi, rfl⟩
  · cases h
/-- A part of an aggregate. -/
theorem partA_sound {σ : Own} {w : World} {t : TypeId} {cs : List AV} {ys : Array Value} (h : LR σ cs ys.toList) {off : Nat} {v : AV} (hp : partA P t cs off = some v) :
    ∃ u, (part t ys off).run P w = .ok u w ∧ VR σ v u := by
  unfold partA at hp
  obtain ⟨hd, hl⟩ := bif_none hp
  obtain ⟨d, hd⟩ : ∃ d, P.underlying t = some d := by cases e : P.underlying t with | none => simp [e] at hd | some d => exact ⟨d, rfl⟩
  unfold part
  simp only [Sem.run_bind, run_isAgg' t w d hd, Result.andThen_ok]
  cases hc : isAggT P t
  · rw [hc] at hl
    simp only [cond_false] at hl
    obtain ⟨y, h1, h2⟩ := h.2 off v hl
    refine ⟨y, ?_, h2⟩
    simp at h1
    simp [h1]
  · rw [hc] at hl
    simp only [cond_true] at hl
    split at hl
    · rename_i n hn
      cases hl
      refine ⟨.agg (ys.extract off (off + n)), ?_, .agg' ?_⟩
      · simp [run_sizeOf' t w n hn]
      · have := (h.drop off).take n
        rw [Array.toList_extract, List.extract_eq_take_drop, Nat.add_sub_cancel_left]
        exact this
    · cases hl

/-- LOAD. -/
theorem loadV_sound {σ : Own} {H : AH} {w : World} (h : SimR σ H w) {t : TypeId} {id off lim : Nat} {v : AV} (hl : loadV P H t id off lim = some v)
    {b : Nat} {r : Own1} (hr : σ b = some r) (hid : r.id = id) (hlim : lim ≤ r.m) :
    ∃ u, (loadVar t ⟨b, off, none⟩).run P w = .ok u w ∧ VR σ v u := by
  unfold loadV at hl
  obtain ⟨hd, hl⟩ := bif_none hl
  obtain ⟨d, hd⟩ : ∃ d, P.underlying t = some d := by cases e : P.underlying t with | none => simp [e] at hd | some d => exact ⟨d, rfl⟩
  unfold loadVar
  simp only [Sem.run_bind, run_isAgg' t w d hd, Result.andThen_ok]
  cases hc : isAggT P t
  · rw [hc] at hl
    simp only [Bool.false_eq_true, if_false, cond_false] at hl ⊢
    split at hl
    · rename_i x hx
      cases hl
      obtain ⟨ys, h1, h2, h3⟩ := cells_at h hx hr hid hlim
      obtain ⟨y, ys', rfl, hy, hys⟩ := h3.uncons
      have hcell := h2 0 y rfl
      refine ⟨y, ?_, hy⟩
      rw [add_none] at hcell
      simp only [Nat.add_zero] at hcell
      simp [hcell]
    · cases hl
  · rw [hc] at hl
    simp only [if_true, cond_true] at hl ⊢
    split at hl
    · rename_i n hn
      split at hl
      · rename_i l hl'
        cases hl
        obtain ⟨ys, h1, h2⟩ := run_loadCells_at (P := P) h hl' hr hid hlim
        refine ⟨.agg ys, ?_, .agg' h2⟩
        simp [run_sizeOf' t w n hn, h1]
      · cases hl
    · cases hl

/-! ### Stores -/
theorem setCell_heap_same {w : World} {b j : Nat} {c : Array Value} {e : TypeId} {fr : Nat × Nat} (h : w.heap[b]? = some (.cells c e fr)) (v : Value) :
    (w.setCell ⟨b, j, none⟩ v).heap[b]? = some (.cells (c.setIfInBounds j v) e fr) := by
  simp [World.setCell, Array.getElem?_modify, h]
theorem setCell_heap_other {w : World} {b j x : Nat} (v : Value) (hx : x ≠ b) : (w.setCell ⟨b, j, none⟩ v).heap[x]? = w.heap[x]? := by
  simp [World.setCell, Array.getElem?_modify, Ne.symm hx]

structure Stored (w w' : World) (b : Nat) (e : TypeId) (fr : Nat × Nat) (c : Array Value) (lo : Nat) (vs : List Value) : Prop where
  size : w'.heap.size = w.heap.size
  oth : ∀ x, x ≠ b → w'.heap[x]? = w.heap[x]?
  os : w'.os = w.os
  tape : w'.tape = w.tape
  out : w'.output = w.output
  now : ∃ c' : Array Value, w'.heap[b]? = some (.cells c' e fr) ∧ c'.size = c.size ∧ ∀ j, c'.getD j undef = if lo ≤ j ∧ j < lo + vs.length then vs.getD (j - lo) undef else c.getD j undef

theorem run_storeCells_fr (b off : Nat) (e : TypeId) (fr : Nat × Nat) : ∀ (vs : List Value) (i : Nat) (c : Array Value) (w : World), w.heap[b]? = some (.cells c e fr) → off + i + vs.length ≤ c.size →
    (∀ j, off + i ≤ j → j < off + i + vs.length → ¬ (fr.1 ≤ j ∧ j < fr.2)) → (∀ v ∈ vs, v.oneCell' = true) →
    ∃ w', (Go.storeCells ⟨b, off, none⟩ vs i).run P w = .ok () w' ∧ Stored w w' b e fr c (off + i) vs
  | [], i, c, w, hg, hl, hfr, h1 => ⟨w, rfl, rfl, fun _ _ => rfl, rfl, rfl, rfl, c, hg, rfl, fun j => by rw [if_neg (by simp)]⟩
  | v :: rest, i, c, w, hg, hl, hfr, h1 => by
    have hi : off + i < c.size := by simp at hl; omega
    have hcell : w.cell? ⟨b, off + i, none⟩ = some c[off + i] := by rw [cell_of hg]; simp [hi]
    have hfro : w.frozen? ⟨b, off + i, none⟩ = false := by
      have := hfr (off + i) (Nat.le_refl _) (by simp)
      obtain ⟨lo, hi⟩ := fr
      simp only [World.frozen?, hg]
      simpa using this
    have hst : (store ((⟨b, off, none⟩ : Addr).add i) v).run P w = .ok () (w.setCell ⟨b, off + i, none⟩ v) := by
      rw [add_none, run_store P w _ v _ (h1 v (by simp)), hcell]
      simp [hfro]
    obtain ⟨w', hrun, hst'⟩ := run_storeCells_fr b off e fr rest (i + 1) (c.setIfInBounds (off + i) v) (w.setCell ⟨b, off + i, none⟩ v) (setCell_heap_same hg v)
      (by simp at hl ⊢; omega) (fun j hj hj' => hfr j (by omega) (by simp at hj' ⊢; omega)) (fun x hx => h1 x (by simp [hx]))
    refine ⟨w', by simp only [Go.storeCells, Sem.run_bind, hst, Result.andThen_ok, hrun], ?_, ?_, ?_, ?_, ?_, ?_⟩
    · rw [hst'.size]; simp [World.setCell]
    · intro x hx; rw [hst'.oth x hx, setCell_heap_other v hx]
    · exact hst'.os
    · exact hst'.tape
    · exact hst'.out
    · obtain ⟨c', k1, k2, k3⟩ := hst'.now
      refine ⟨c', k1, by simpa using k2, fun j => ?_⟩
      rw [k3 j]
      by_cases e1 : j = off + i
      · subst e1
        rw [if_neg (by omega), if_pos (by simp), Nat.sub_self]
        simp [Array.getD_eq_getD_getElem?, hi]
      · by_cases e2 : off + (i + 1) ≤ j ∧ j < off + (i + 1) + rest.length
        · rw [if_pos e2, if_pos (by simp; omega)]
          have : j - (off + i) = (j - (off + (i + 1))) + 1 := by omega
          rw [this]; simp
        · rw [if_neg e2, if_neg (by simp; omega)]
          simp [Array.getD_eq_getD_getElem?, Ne.symm e1]

theorem LR.one {σ : Own} {cs : List AV} {ys : List Value} (h : LR σ cs ys) (h1 : cs.all AV.one = true) : ∀ v ∈ ys, v.oneCell' = true := by
  intro v hv
  obtain ⟨i, hi, rfl⟩ := List.getElem_of_mem hv
  have hi' : i < cs.length := by rw [h.1]; exact hi
  obtain ⟨y, k1, k2⟩ := h.2 i cs[i] (List.getElem?_eq_getElem hi')
  rw [List.getElem?_eq_getElem hi] at k1
  have hy : ys[i] = y := by simpa using k1
  rw [hy]
  have := (List.all_eq_true.1 h1) cs[i] (List.getElem_mem hi')
  generalize cs[i] = x at this k2
  cases k2 <;> first | rfl | (simp [AV.one] at this)

/-- STORE. -/
theorem storeCells_sound {σ : Own} {H H' : AH} {w : World} (h : Sim G σ H w) {id off lim : Nat} {l : List AV} (hs : AM.storeCells H id off lim l = some H') (h1 : l.all AV.one = true)
    {b : Nat} {r : Own1} (hr : σ b = some r) (hid : r.id = id) (hlim : lim ≤ r.m) {ys : List Value} (hl : LR σ l ys) :
    ∃ w', (Go.storeCells ⟨b, off, none⟩ ys 0).run P w = .ok () w' ∧ Sim G σ H' w' ∧ Grw σ σ w w' := by
  obtain ⟨k, o, g1, g2, g3⟩ := h.blk b r hr
  subst hid
  unfold AM.storeCells at hs
  rw [g1] at hs
  cases k with
  | cells cs e ver fz =>
    obtain ⟨c, fr, rfl, c1, c2, c3, c4, c5⟩ := g3
    simp only at hs
    obtain ⟨hc, hs⟩ := bif_some hs
    · cases hs
      simp only [Bool.and_eq_true, Nat.ble_eq] at hc
      obtain ⟨⟨⟨ha, hver⟩, hfz⟩, hlen⟩ := hc
      obtain ⟨w', hrun, hst⟩ := run_storeCells_fr (P := P) b off e fr ys 0 c w g2 (by rw [← hl.1]; omega)
        (fun j hj hj' hf => by rcases c5 with c5 | c5 <;> omega) (hl.one h1)
      refine ⟨w', hrun, ?_⟩
      obtain ⟨c', k1, k2, k3⟩ := hst.now
      have := h.turn hr (.cells (overwrite cs off l) e ver fz) r.m (Nat.le_refl _) w' hst.size hst.oth hst.os hst.tape hst.out _ k1
        (by
          rw [Own.set_self σ hr]
          refine ⟨c', fr, rfl, k2.trans c1, by rw [overwrite_length]; exact c2, c3, ?_, c5⟩
          intro i x hi hx
          rw [overwrite_get cs off l i hlen] at hx
          rw [k3 i]
          simp only [Nat.add_zero]
          rw [← hl.1]
          by_cases hin : off ≤ i ∧ i < off + l.length
          · rw [if_pos hin] at hx ⊢
            obtain ⟨y, q1, q2⟩ := hl.2 _ x hx
            rw [List.getD_eq_getElem?_getD, q1]; exact q2
          · rw [if_neg hin] at hx ⊢
            exact c4 i x hi hx)
        (fun x rx o hx hxr hxid ho k0 hk0 hbr => by
          rw [Own.set_self σ hr]
          rw [g1] at hk0; cases hk0
          obtain ⟨cx, frx, rfl, d1, d2, d3, d4, d5⟩ := hbr
          refine ⟨cx, frx, rfl, d1, by rw [overwrite_length]; exact d2, d3, ?_, d5⟩
          intro i y hi hy
          rw [overwrite_get cs off l i hlen] at hy
          by_cases hin : off ≤ i ∧ i < off + l.length
          · exact absurd (h.uniq x b rx r (.cells cs e ver fz) hxr hr hxid (by rw [hxid]; exact g1) ⟨i, by omega, hi, by omega⟩) hx
          · rw [if_neg hin] at hy
            exact d4 i y hi hy)
        (fun x x' rx rx' hx hx' hxid hxid' hu => by
          rw [Own.set_self σ hr] at hx hx'
          exact h.uniq x x' rx rx' (.cells cs e ver fz) hx hx' (hxid.trans hxid'.symm) (by rw [hxid]; exact g1) hu)
      rwa [Own.set_self σ hr] at this
  | _ => simp at hs
end Go.AM
namespace Go.AM
open Go
variable {P : Program}

/-- The word of a pure operation. -/
def Yes (P : Program) (σ : Own) (w : World) (s : Sem Value) (v : AV) : Prop := ∃ y, s.run P w = .ok y w ∧ VR σ v y

theorem intEq_eq (a b : Int) : intEq a b = (a == b) := by
  rw [Bool.eq_iff_iff]
  cases a <;> cases b <;> simp [intEq] <;> omega
theorem intLt_eq (a b : Int) : intLt a b = decide (a < b) := by
  rw [Bool.eq_iff_iff]
  cases a <;> cases b <;> simp [intLt, Nat.blt_eq] <;> omega
theorem intLe_eq (a b : Int) : intLe a b = decide (a ≤ b) := by
  rw [Bool.eq_iff_iff]
  cases a <;> cases b <;> simp [intLe] <;> omega
theorem kindEq_eq {a b : IntKind} (h : kindEq a b = true) : a = b := by cases a <;> cases b <;> first | rfl | (simp [kindEq] at h)
theorem wrap_small (k : IntKind) (m : Nat) (h : m ≤ 127) : k.wrap (m : Int) = m := by
  cases k <;> simp [IntKind.wrap, IntKind.bits, IntKind.signed] <;> omega
theorem wrapQ_eq (k : IntKind) (n : Int) : wrapQ k n = k.wrap n := by
  cases n with
  | ofNat m =>
    simp only [wrapQ]
    cases h : Nat.ble m 127
    · rfl
    · exact (wrap_small k m (by simpa using h)).symm
  | negSucc m => rfl
theorem wrap64_small (m : Nat) (h : m ≤ 9223372036854775807) : IntKind.i64.wrap (m : Int) = m := by
  simp [IntKind.wrap, IntKind.bits, IntKind.signed]; omega
theorem wrapQ'_eq (k : IntKind) (n : Int) : wrapQ' k n = k.wrap n := by
  unfold wrapQ'
  split
  · cases h : Nat.ble _ 9223372036854775807
    · rfl
    · exact (wrap64_small _ (by simpa using h)).symm
  · exact wrapQ_eq _ _
theorem listEq_eq (a b : List Nat) : listEq a b = (a == b) := by
  induction a generalizing b with
  | nil => cases b <;> rfl
  | cons x a ih =>
    cases b with
    | nil => rfl
    | cons y b =>
      have : Nat.beq x y = (x == y) := by rw [Bool.eq_iff_iff]; simp
      simp only [listEq, ih, this]
      cases h : (x == y) <;> simp [List.cons_beq_cons, h]

/-! ### Strings -/
theorem bytes_size (b : ByteArray) : (bytesOf b).length = b.size := by simp [bytesOf]
theorem bytes_toList (b : ByteArray) : bytesOf b = b.toList.map (·.toNat) := by
  rw [ByteArray.toList_eq]; rfl
theorem map_toNat_inj {x y : List UInt8} (h : x.map (·.toNat) = y.map (·.toNat)) : x = y := by
  induction x generalizing y with
  | nil => cases y <;> simp_all
  | cons a x ih =>
    cases y with
    | nil => simp at h
    | cons b y =>
      simp only [List.map_cons, List.cons.injEq] at h
      rw [ih h.2, UInt8.toNat_inj.1 h.1]
theorem bytes_inj {a b : ByteArray} (h : bytesOf a = bytesOf b) : a = b := by
  obtain ⟨⟨x⟩⟩ := a
  obtain ⟨⟨y⟩⟩ := b
  have := map_toNat_inj h
  simp at this
  rw [this]
theorem str_eq (a b : ByteArray) : (a.toList == b.toList) = listEq (bytesOf a) (bytesOf b) := by
  rw [listEq_eq, bytes_toList, bytes_toList, Bool.eq_iff_iff]
  simp only [beq_iff_eq]
  exact ⟨fun h => by rw [h], map_toNat_inj⟩
theorem str_lt (a b : ByteArray) : Op.bytesLess a.toList b.toList = listLt (bytesOf a) (bytesOf b) := by
  rw [bytes_toList, bytes_toList]
  generalize a.toList = x
  generalize b.toList = y
  induction x generalizing y with
  | nil => cases y <;> rfl
  | cons c x ih =>
    cases y with
    | nil => rfl
    | cons d y =>
      simp only [Op.bytesLess, List.map_cons, listLt, ih]
      have h1 : Nat.blt c.toNat d.toNat = decide (c < d) := by
        rw [Bool.eq_iff_iff]; simp [Nat.blt_eq, UInt8.lt_iff_toNat_lt]
      have h2 : Nat.beq c.toNat d.toNat = (c == d) := by
        rw [Bool.eq_iff_iff]; simp [UInt8.toNat_inj]
      rw [h1, h2]
      cases decide (c < d) <;> cases (c == d) <;> simp
theorem bytes_append (a b : ByteArray) : bytesOf (a ++ b) = bytesOf a ++ bytesOf b := by
  simp [bytesOf]

theorem strOp_sound {σ : Own} {w : World} {op : BinOp} {x y : List Nat} {v : AV} (h : strOp op x y = some v) {a b : ByteArray} (ha : bytesOf a = x) (hb : bytesOf b = y) : Yes P σ w (Op.stringOp op a b) v := by
  subst ha; subst hb
  unfold Yes
  cases op <;> simp only [strOp] at h <;> first
    | (cases h; done)
    | (obtain ⟨hc, h⟩ := bif_some h
       cases h
       have hsz : ¬ ((a.size + b.size : Nat) : Int) > IntKind.i64.max := by
         have : a.size + b.size ≤ 1000000000 := by simpa [bytes_size] using hc
         simp only [IntKind.max, IntKind.signed, IntKind.bits]; omega
       refine ⟨.string (a ++ b), ?_, .str _ _ (bytes_append a b)⟩
       simp only [Op.stringOp, if_neg hsz, Sem.run_pure])
    | (cases h; exact ⟨_, by simp only [Op.stringOp, Sem.run_pure, str_eq, str_lt], .bool _⟩)

theorem intOp_sound {σ : Own} {w : World} {op : BinOp} {k : IntKind} {a b : Int} {v : AV} (h : intOp op k a b = some v) :
    Yes P σ w (match op with
      | .add | .sub | .mul => Op.intArith op k a b
      | .quo | .rem => Op.intDiv op k a b
      | .and | .or | .xor | .andNot => Op.intBits op k a b
      | _ => Op.intCmp op a b) v := by
  unfold Yes
  cases op <;> simp only [intOp, wrapQ'_eq, intEq_eq, intLt_eq, intLe_eq] at h <;> first
    | (cases h; done)
    | (cases h; exact ⟨_, rfl, .int _ _⟩)
    | (cases h; exact ⟨_, rfl, .bool _⟩)
    | (obtain ⟨hc, h⟩ := bif_none h
       cases h
       have hb : ¬ b = 0 := by simpa using hc
       exact ⟨_, by simp only [Op.intDiv, if_neg hb, Sem.run_pure], .int _ _⟩)
    | (simp only [bitsQ, Option.map_some, Option.some.injEq] at h; subst h; exact ⟨_, rfl, .int _ _⟩)
end Go.AM
namespace Go.AM
open Go
variable {P : Program}

theorem fieldsOf_eq {t : TypeId} {fs : Array Field} (h : P.underlying t = some (.struct fs)) : P.fieldsOf t = fs := by
  simp [Program.fieldsOf, h]

theorem eqFs_sound (eq : TypeId → AV → AV → Option Bool) (d : Nat) (w : World) (ih : ∀ t x y b, eq t x y = some b → ∀ σ x' y', VR σ x x' → VR σ y y' → (Op.equalIn d t x' y').run P w = .ok b w)
    {σ : Own} {xs ys : List AV} {xs' ys' : Array Value} (hx : LR σ xs xs'.toList) (hy : LR σ ys ys'.toList) :
    ∀ (fs : List Field) (b : Bool), eqFs P eq xs ys fs = some b → (Op.eqFields d xs' ys' fs).run P w = .ok b w := by
  intro fs
  induction fs with
  | nil => intro b h; simp only [eqFs, Option.some.injEq] at h; subst h; simp [Op.eqFields]
  | cons f fs ihf =>
    intro b h
    simp only [eqFs] at h
    simp only [Op.eqFields, Sem.run_bind, Sem.run_ite]
    cases hn : (f.name != "_")
    · rw [hn] at h
      have : ¬ (f.name ≠ "_") := by simpa using hn
      simp only [this, if_false]
      exact ihf b h
    · rw [hn] at h
      have : f.name ≠ "_" := by simpa using hn
      simp only [this, ne_eq, not_false_eq_true, if_true]
      simp only [cond_true] at h
      split at h
      · rename_i a c ha hc
        obtain ⟨a', ra, va⟩ := partA_sound (P := P) (w := w) hx ha
        obtain ⟨c', rc, vc⟩ := partA_sound (P := P) (w := w) hy hc
        simp only [ra, Result.andThen_ok, rc]
        split at h
        · rename_i he
          rw [ih _ _ _ _ he σ a' c' va vc]
          simp only [Result.andThen_ok, Bool.not_true, Bool.false_eq_true, if_false]
          exact ihf b h
        · rename_i he
          cases h
          rw [ih _ _ _ _ he σ a' c' va vc]
          simp
        · cases h
      · cases h

theorem eqArr_sound (eq : TypeId → AV → AV → Option Bool) (d : Nat) (w : World) (ih : ∀ t x y b, eq t x y = some b → ∀ σ x' y', VR σ x x' → VR σ y y' → (Op.equalIn d t x' y').run P w = .ok b w)
    {σ : Own} {xs ys : List AV} {xs' ys' : Array Value} (hx : LR σ xs xs'.toList) (hy : LR σ ys ys'.toList) (e : TypeId) (n : Nat) :
    ∀ (l : List Nat) (b : Bool), eqArr P eq e n xs ys l = some b →
      (forIn (m := Sem) l ((none : Option Bool), ()) fun i _ => do
        if !(← Op.equalIn d e (← part e xs' (i * n)) (← part e ys' (i * n))) then pure (.done (some false, ())) else pure (.yield (none, ()))).run P w =
      .ok (if b then none else some false, ()) w := by
  intro l
  induction l with
  | nil => intro b h; simp only [eqArr, Option.some.injEq] at h; subst h; simp
  | cons i l ihl =>
    intro b h
    simp only [eqArr] at h
    split at h
    · rename_i a c ha hc
      obtain ⟨a', ra, va⟩ := partA_sound (P := P) (w := w) hx ha
      obtain ⟨c', rc, vc⟩ := partA_sound (P := P) (w := w) hy hc
      simp only [List.forIn_cons, Sem.run_bind, ra, rc, Result.andThen_ok]
      split at h
      · rename_i he
        rw [ih _ _ _ _ he σ a' c' va vc]
        simp only [Result.andThen_ok, Bool.not_true, Bool.false_eq_true, if_false, Sem.run_pure]
        exact ihl b h
      · rename_i he
        cases h
        rw [ih _ _ _ _ he σ a' c' va vc]
        simp
      · cases h
    · cases h

theorem eqIn_sound : ∀ (d : Nat) (t : TypeId) (x y : AV) (b : Bool), eqIn P d t x y = some b → ∀ (σ : Own) (x' y' : Value), VR σ x x' → VR σ y y' → ∀ (D : Nat), d ≤ D → ∀ w, (Op.equalIn D t x' y').run P w = .ok b w := by
  intro d
  induction d with
  | zero => intro t x y b h; simp [eqIn] at h
  | succ d ih =>
    intro t x y b h σ x' y' hx hy D hD w
    obtain ⟨D, rfl⟩ : ∃ D', D = D' + 1 := ⟨D - 1, by omega⟩
    have hD' : d ≤ D := by omega
    simp only [eqIn] at h
    split at h
    · rename_i hu
      cases h; cases hx; cases hy
      simp [Op.equalIn, run_underlying hu]
    · rename_i k0 k a k' c hu
      obtain ⟨hk, h⟩ := bif_some h
      cases h; cases hx; cases hy
      have := kindEq_eq hk
      subst this
      simp [Op.equalIn, run_underlying hu, intEq_eq]
    · rename_i a c hu
      cases h
      cases hx with | str _ a' ha => cases hy with | str _ c' hc =>
      subst ha; subst hc
      simp only [Op.equalIn, Sem.run_bind, run_underlying hu, Result.andThen_ok, Sem.run_pure]
      rw [beq_toListBytes, str_eq]
    · rename_i fs xs ys hu
      obtain ⟨hs, h⟩ := bif_none h
      obtain ⟨xs', rfl, lx⟩ := hx.agg_inv
      obtain ⟨ys', rfl, ly⟩ := hy.agg_inv
      rw [run_equalIn_struct w D t xs' ys' (by rw [fieldsOf_eq hu]; exact hu) hs, fieldsOf_eq hu]
      exact eqFs_sound (eqIn P d) D w (fun t x y b he σ x' y' h1 h2 => ih t x y b he σ x' y' h1 h2 D hD' w) lx ly _ b h
    · rename_i len e xs ys hu
      split at h
      · rename_i n hn
        obtain ⟨xs', rfl, lx⟩ := hx.agg_inv
        obtain ⟨ys', rfl, ly⟩ := hy.agg_inv
        have := eqArr_sound (eqIn P d) D w (fun t x y b he σ x' y' h1 h2 => ih t x y b he σ x' y' h1 h2 D hD' w) lx ly e n _ b h
        simp only [Op.equalIn, Sem.run_bind, run_underlying hu, Result.andThen_ok, run_sizeOf' e w n hn]
        simp only [Std.Legacy.Range.forIn_eq_forIn_range', Std.Legacy.Range.size, Nat.sub_zero, Nat.add_one_sub_one, Nat.div_one, ← List.range_eq_range', this, Result.andThen_ok]
        cases b <;> rfl
      · cases h
    · cases h
end Go.AM
namespace Go.AM
open Go
variable {P : Program}

theorem eqGuard_ok (op : BinOp) (t : TypeId) (xo yo : Operand) (a b : Value) (w : World)
    (hi : a = .nilIface → b = .nilIface → isConst xo = true ∨ isConst yo = true)
    (ha : ∀ xs ys, a = .agg xs → b = .agg ys → P.eqGuardType P.depth t = false) : (eqGuard op t xo yo a b).run P w = .ok () w := by
  unfold eqGuard
  cases op
  all_goals first
    | rfl
    | (simp only [Bool.not_true, Bool.false_eq_true, if_false]
       split
       · rcases hi rfl rfl with h | h
         · cases xo <;> simp [isConst] at h; rfl
         · cases yo <;> simp [isConst] at h; cases xo <;> rfl
       · have := ha _ _ rfl rfl
         simp [this]
       · rfl)

theorem eqOp_sound {t : TypeId} {cx cy : Bool} {x y : AV} {b : Bool} (h : eqOp P t cx cy x y = some b) {σ : Own} {x' y' : Value} (hx : VR σ x x') (hy : VR σ y y') (w : World) :
    (Op.equal t x' y').run P w = .ok b w ∧ (x' = .nilIface → y' = .nilIface → cx = true ∨ cy = true) ∧ (∀ xs ys, x' = .agg xs → y' = .agg ys → P.eqGuardType P.depth t = false) := by
  unfold eqOp at h
  unfold Op.equal
  rw [show Op.maxDepth = 9999 + 1 from rfl]
  have hD : 20 ≤ 9999 + 1 := by omega
  generalize 9999 = D at hD ⊢
  split at h
  all_goals rename_i hu
  case h_17 =>
    obtain ⟨hg, h2⟩ := bif_none h
    refine ⟨eqIn_sound 20 t _ _ b h2 σ x' y' hx hy (D + 1) hD w, ?_, fun _ _ _ _ => hg⟩
    rintro rfl _; cases hx
  case h_18 => cases h
  case h_14 =>
    obtain ⟨hg, h2⟩ := bif_some h
    cases h2; cases hx; cases hy
    refine ⟨?_, fun _ _ => by simpa using hg, fun _ _ e _ => by cases e⟩
    simp only [Op.equalIn, Sem.run_bind, run_underlying hu, Result.andThen_ok, Sem.run_pure]
  all_goals
    cases h
    cases hx <;> cases hy <;> refine ⟨?_, fun e e2 => (by cases e <;> cases e2), fun _ _ e _ => by cases e⟩ <;>
    simp only [Op.equalIn, Sem.run_bind, run_underlying hu, Result.andThen_ok, Sem.run_pure, Option.isNone_none, Option.isNone_some]

theorem binOp_sound {op : BinOp} {t : TypeId} {xo yo : Operand} {x y v : AV} (h : binOp P op t (isConst xo) (isConst yo) x y = some v) {σ : Own} {x' y' : Value} (hx : VR σ x x') (hy : VR σ y y') (w : World) :
    ∃ u, (eqGuard op t xo yo x' y').run P w = .ok () w ∧ (Go.binOp op t x' y').run P w = .ok u w ∧ VR σ v u := by
  unfold binOp at h
  split at h
  · rename_i k a k' c
    cases hx; cases hy
    have hg : (eqGuard op t xo yo (.int k a) (.int k' c)).run P w = .ok () w := eqGuard_ok _ _ _ _ _ _ w (by simp) (by simp)
    split at h
    · obtain ⟨hc, h⟩ := bif_none h
      cases h
      have hb : ¬ c < 0 := by simpa [intLt_eq] using hc
      exact ⟨_, hg, by simp [Go.binOp, Op.shift, hb], .int _ _⟩
    · obtain ⟨hc, h⟩ := bif_none h
      cases h
      have hb : ¬ c < 0 := by simpa [intLt_eq] using hc
      exact ⟨_, hg, by simp [Go.binOp, Op.shift, hb], .int _ _⟩
    · rename_i hn1 hn2
      obtain ⟨hk, hi⟩ := bif_some h
      have := kindEq_eq hk
      subst this
      clear h
      obtain ⟨u, h1, h2⟩ := intOp_sound (P := P) (σ := σ) (w := w) hi
      refine ⟨u, hg, ?_, h2⟩
      rw [← h1]
      cases op <;> first
        | (simp only [Go.binOp, ne_eq, not_true_eq_false, if_false]; done)
        | (exact absurd rfl hn1)
        | (exact absurd rfl hn2)
  · rename_i a c
    cases hx with | str _ a' ha => cases hy with | str _ c' hc =>
    obtain ⟨u, h1, h2⟩ := strOp_sound (P := P) (σ := σ) (w := w) h ha hc
    refine ⟨u, eqGuard_ok _ _ _ _ _ _ w (by simp) (by simp), ?_, h2⟩
    rw [← h1]
    cases op <;> rfl
  · rename_i h1 h2
    split at h
    · split at h
      · rename_i b he
        cases h
        obtain ⟨e1, e2, e3⟩ := eqOp_sound he hx hy w
        refine ⟨.bool b, eqGuard_ok _ _ _ _ _ _ w e2 e3, ?_, .bool b⟩
        have : (Go.binOp .eql t x' y') = (do pure (.bool (← Op.equal t x' y'))) := by
          cases hx <;> cases hy <;> first
            | rfl
            | (exact absurd rfl (h1 _ _ _ _ rfl))
            | (exact absurd rfl (h2 _ _ rfl))
            | (simp [eqOp] at he; done)
            | (unfold eqOp at he; split at he <;> simp_all)
        rw [this]; simp [e1]
      · cases h
    · split at h
      · rename_i b he
        cases h
        obtain ⟨e1, e2, e3⟩ := eqOp_sound he hx hy w
        refine ⟨.bool (!b), eqGuard_ok _ _ _ _ _ _ w e2 e3, ?_, .bool _⟩
        have : (Go.binOp .neq t x' y') = (do pure (.bool (!(← Op.equal t x' y')))) := by
          cases hx <;> cases hy <;> first
            | rfl
            | (exact absurd rfl (h1 _ _ _ _ rfl))
            | (exact absurd rfl (h2 _ _ rfl))
            | (simp [eqOp] at he; done)
            | (unfold eqOp at he; split at he <;> simp_all)
        rw [this]; simp [e1]
      · cases h
    · cases h

theorem unOp_sound {op : UnOp} {x v : AV} (h : unOp op x = some v) {σ : Own} {x' : Value} (hx : VR σ x x') (w : World) : Yes P σ w (Op.unary op x') v := by
  unfold unOp at h
  split at h
  · cases h; cases hx; exact ⟨_, rfl, .int _ _⟩
  · cases hx
    simp only [bitsQ, Option.map_some, Option.some.injEq] at h
    subst h
    exact ⟨_, rfl, .int _ _⟩
  · cases h; cases hx; exact ⟨_, rfl, .bool _⟩
  · cases h
end Go.AM
namespace Go.AM
open Go
variable {P : Program}

theorem cellsOf_LR {σ : Own} {v : AV} {l : List AV} (h : cellsOfAV v = some l) {v' : Value} (hv : VR σ v v') : LR σ l v'.cells.toList := by
  unfold cellsOfAV at h
  split at h
  · cases h
    obtain ⟨ys, rfl, hl⟩ := hv.agg_inv
    exact hl
  · cases h
  · cases h
  · cases h
    have : v'.cells = #[v'] := by cases hv <;> first | rfl | (rename_i hn _ _ _ ; exact absurd rfl (hn _)) | (rename_i hn; exact absurd rfl hn) | simp_all
    rw [this]
    exact LR.cons hv (LR.nil σ)

theorem fold_get (off : Nat) : ∀ (vs : List Value) (k : Nat) (c : Array Value), off + k + vs.length ≤ c.size →
    ((vs.zipIdx k).foldl (fun cs (p : Value × Nat) => cs.setIfInBounds (off + p.2) p.1) c).size = c.size ∧
    ∀ j, ((vs.zipIdx k).foldl (fun cs (p : Value × Nat) => cs.setIfInBounds (off + p.2) p.1) c)[j]? = if off + k ≤ j ∧ j < off + k + vs.length then vs[j - (off + k)]? else c[j]? := by
  intro vs
  induction vs with
  | nil => intro k c _; exact ⟨rfl, fun j => by rw [if_neg (by simp)]; rfl⟩
  | cons v vs ih =>
    intro k c h
    simp only [List.zipIdx_cons, List.foldl_cons]
    obtain ⟨h1, h2⟩ := ih (k + 1) (c.setIfInBounds (off + k) v) (by simp at h ⊢; omega)
    refine ⟨by rw [h1]; simp, fun j => ?_⟩
    rw [h2 j]
    by_cases e : j = off + k
    · subst e
      rw [if_neg (by omega), if_pos (by simp), Nat.sub_self]
      have : off + k < c.size := by simp at h; omega
      simp [this]
    · by_cases e2 : off + (k + 1) ≤ j ∧ j < off + (k + 1) + vs.length
      · rw [if_pos e2, if_pos (by simp; omega)]
        have : j - (off + k) = (j - (off + (k + 1))) + 1 := by omega
        rw [this]; simp
      · rw [if_neg e2, if_neg (by simp; omega)]
        simp [Ne.symm e]

theorem overwrite_LR {σ : Own} {cs l : List AV} {c vs : Array Value} (hc : LR σ cs c.toList) (hl : LR σ l vs.toList) {off : Nat} (h : off + l.length ≤ cs.length) :
    LR σ (overwrite cs off l) (vs.zipIdx.foldl (fun cs (p : Value × Nat) => cs.setIfInBounds (off + p.2) p.1) c).toList := by
  have hlen : l.length = vs.size := by simpa using hl.1
  have hcl : cs.length = c.size := by simpa using hc.1
  have := fold_get off vs.toList 0 c (by simp; omega)
  rw [← Array.foldl_toList, Array.toList_zipIdx]
  obtain ⟨h1, h2⟩ := this
  refine ⟨by rw [overwrite_length]; simp only [Array.length_toList]; rw [h1]; exact hcl, fun i x hx => ?_⟩
  rw [overwrite_get cs off l i h] at hx
  have h2i := h2 i
  simp only [Nat.add_zero, Array.length_toList] at h2i
  rw [Array.getElem?_toList, h2i]
  rw [← hlen]
  by_cases e : off ≤ i ∧ i < off + l.length
  · rw [if_pos e] at hx ⊢
    exact hl.2 _ x hx
  · rw [if_neg e] at hx ⊢
    obtain ⟨y, k1, k2⟩ := hc.2 i x hx
    exact ⟨y, by simpa using k1, k2⟩

/-- Parts with their places. -/
def PR (σ : Own) : List (Nat × AV) → List (Nat × Value) → Prop
  | [], [] => True
  | (i, v) :: l, (j, u) :: m => i = j ∧ VR σ v u ∧ PR σ l m
  | _, _ => False

theorem fill_sound {σ : Own} {pl pl' : Nat → Option (Nat × Nat)} (hp : ∀ i p, pl i = some p → pl' i = some p) : ∀ (pa : List (Nat × AV)) (pv : List (Nat × Value)) (cs cs' : List AV) (c : Array Value),
    PR σ pa pv → LR σ cs c.toList → fillA pl cs pa = some cs' → ∃ c', Instr.fill pl' c pv = some c' ∧ LR σ cs' c'.toList
  | [], [], cs, cs', c, _, hc, h => by cases h; exact ⟨c, rfl, hc⟩
  | [], _ :: _, _, _, _, hpr, _, _ => by cases hpr
  | (_, _) :: _, [], _, _, _, hpr, _, _ => by cases hpr
  | (i, v) :: pa, (j, u) :: pv, cs, cs', c, hpr, hc, h => by
    obtain ⟨rfl, hv, hrest⟩ := hpr
    simp only [fillA] at h
    split at h
    · rename_i off size l hpl hcl
      obtain ⟨hb, h⟩ := bif_some h
      simp only [Bool.and_eq_true, Nat.beq_eq, Nat.ble_eq] at hb
      have hl := cellsOf_LR hcl hv
      have h1 : u.cells.size = size := by have := hl.1; simp at this; omega
      have h2 : off + u.cells.size ≤ c.size := by have := hl.1; have := hc.1; simp at *; omega
      obtain ⟨c', k1, k2⟩ := fill_sound hp pa pv _ cs' _ hrest (overwrite_LR hc hl hb.2) h
      refine ⟨c', ?_, k2⟩
      simp only [Instr.fill, hp _ _ hpl]
      rw [if_neg (by simp [h1]; omega)]
      exact k1
    · cases h

theorem run_zeroValue' {t : TypeId} {i : TypeInfo} {z : Value} (hi : P.info? t = some i) (hz : i.zero = some z) (w : World) : (zeroValue t).run P w = .ok z w := by
  simp [zeroValue, typeInfo, hi, hz]
theorem zeroCells_some {t : TypeId} {l : List AV} (h : zeroCells P t = some l) : ∃ i z, P.info? t = some i ∧ i.zero = some z ∧ l = z.cells.toList.map cell1 := by
  unfold zeroCells at h
  split at h
  · split at h
    · rename_i i hi _ v hv; cases h; exact ⟨i, v, hi, hv, rfl⟩
    · cases h
  · cases h
theorem zeroVal_some {t : TypeId} {v : AV} (h : zeroVal P t = some v) : ∃ z, (∀ w, (zeroValue t).run P w = .ok z w) ∧ v = ofValue z := by
  unfold zeroVal at h
  split at h
  · split at h
    · rename_i i hi _ z hz; cases h; exact ⟨z, fun w => run_zeroValue' hi hz w, rfl⟩
    · cases h
  · cases h

/-- The places of a struct's fields. -/
theorem run_places (w : World) : ∀ (l : List Field), (∀ f ∈ l, (sizeT P f.type).isSome) →
    ∃ ps : List (Nat × Nat), (l.mapM (m := Sem) fun f => do pure (f.offset, ← sizeOf f.type)).run P w = .ok ps w ∧ ps.length = l.length ∧
      ∀ (i : Nat) (f : Field) (n : Nat), l[i]? = some f → sizeT P f.type = some n → ps[i]? = some (f.offset, n)
  | [], _ => ⟨[], rfl, rfl, fun i f n h => by simp at h⟩
  | f :: l, h => by
    obtain ⟨ps, h1, h2, h3⟩ := run_places w l (fun g hg => h g (List.mem_cons_of_mem _ hg))
    obtain ⟨n, hn⟩ := Option.isSome_iff_exists.1 (h f List.mem_cons_self)
    refine ⟨(f.offset, n) :: ps, ?_, by simp [h2], ?_⟩
    · simp only [List.mapM_cons, Sem.run_bind, run_sizeOf' f.type w n hn, Result.andThen_ok, Sem.run_pure, h1]
    · intro i g m hg hm
      cases i with
      | zero => simp at hg; subst hg; rw [hn] at hm; cases hm; rfl
      | succ i => simp at hg ⊢; exact h3 i g m hg hm

theorem build_sound {σ : Own} {w : World} {t : TypeId} {pa : List (Nat × AV)} {v : AV} (h : buildA P t pa = some v) {pv : Array (Nat × Value)} (hp : PR σ pa pv.toList) : Yes P σ w (Instr.build t pv) v := by
  unfold buildA at h
  split at h
  · rename_i z fs hz hu
    obtain ⟨i, zv, hi, hzv, rfl⟩ := zeroCells_some hz
    obtain ⟨hb, h⟩ := bif_some h
    split at h
    · rename_i cs hf
      cases h
      obtain ⟨ps, h1, h2, h3⟩ := run_places (P := P) w fs.toList (fun f hf => List.all_eq_true.1 hb f hf)
      obtain ⟨c', k1, k2⟩ := fill_sound (pl' := (ps.toArray[·]?)) (σ := σ) (fun i p hp => by
        unfold structPlaces at hp
        split at hp
        · rename_i f hf
          split at hp
          · rename_i n hn; cases hp
            have := h3 i f n (by simpa using hf) hn
            simpa using this
          · cases hp
        · cases hp) pa pv.toList _ cs zv.cells hp (cell1_LR σ _) hf
      refine ⟨.agg c', ?_, .agg' k2⟩
      simp only [Instr.build, Sem.run_bind, run_zeroValue' hi hzv, Result.andThen_ok, run_underlying hu, Array.mapM_eq_mapM_toList, Sem.run_map, h1]
      simp only [k1, Sem.run_pure]
    · cases h
  · rename_i z len e hz hu
    obtain ⟨i, zv, hi, hzv, rfl⟩ := zeroCells_some hz
    split at h
    · rename_i n hn
      split at h
      · rename_i cs hf
        cases h
        obtain ⟨c', k1, k2⟩ := fill_sound (pl' := fun i => some (i * n, n)) (σ := σ) (fun i p hp => hp) pa pv.toList _ cs zv.cells hp (cell1_LR σ _) hf
        refine ⟨.agg c', ?_, .agg' k2⟩
        simp only [Instr.build, Sem.run_bind, run_zeroValue' hi hzv, Result.andThen_ok, run_underlying hu, run_sizeOf' e w n hn]
        simp only [k1, Sem.run_pure]
      · cases h
    · cases h
  · cases h
end Go.AM
