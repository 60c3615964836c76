/-
  Effects, append, externs, and one operation of any kind do what the abstract ones do. By an AI agent.
-/
import Derived.Test.YtlbpfpffifppiaaGreatDoorAm3
import Derived.Defers
namespace Go.AM
open Go
variable {G : Gh}
variable {P : Program}

/-- An effect that answers a value. -/
def Eff (G : Gh) (P : Program) (σ : Own) (w : World) (s : Sem Value) (v : AV) (H' : AH) : Prop := ∃ y w' σ', s.run P w = .ok y w' ∧ VR σ' v y ∧ Sim G σ' H' w' ∧ Grw σ σ' w w'

theorem store_sound {σ : Own} {H H' : AH} {w : World} (hs : Sim G σ H w) {t : TypeId} {x v : AV} (h : opStore P H t x v = some H') {x' v' : Value} (hx : VR σ x x') (hv : VR σ v v') : Done G P σ w (Instr.storeAt t x' v') () H' := by
  unfold opStore at h
  split at h
  · rename_i id off lim l n hl hn
    obtain ⟨hb, h⟩ := bif_some h
    simp only [Bool.and_eq_true, Nat.beq_eq] at hb
    cases hx with | ptr _ _ _ b r r1 r2 r3 =>
    have hlr := cellsOf_LR hl hv
    obtain ⟨w', k1, k2, k3⟩ := storeCells_sound (P := P) hs h hb.2 r1 r2 r3 hlr
    refine ⟨w', ?_, k2, k3⟩
    have hsz : v'.cells.size = n := by have := hlr.1; simp at this; omega
    simp only [Instr.storeAt, Instr.sureAddr, Sem.run_bind, Sem.run_pure, Result.andThen_ok, storeVar, run_sizeOf' t w n hn, hsz, ne_eq, not_true_eq_false, if_false]
    exact k1
  · cases h

theorem entryStore_sound {σ : Own} {H H' : AH} {w : World} (hs : Sim G σ H w) {m s v : AV} (h : entryStoreA H m s v = some H') {m' s' v' : Value} (hm : VR σ m m') (hss : VR σ s s') (hv : VR σ v v') (t : TypeId) : Done G P σ w (Instr.entryStore t m' s' v') () H' := by
  unfold entryStoreA at h
  split at h
  · rename_i id b0 hb
    split at h
    · rename_i es clock hg
      split at h
      · rename_i es' hes
        cases h
        cases hm with | map _ b r r1 r2 =>
        subst r2
        obtain ⟨l, l1, l2⟩ := map_at hs.toR hg r1 rfl
        obtain ⟨k, rfl⟩ := asNat_inv hb hss
        have key : ∀ (es : List (AV × AV × Nat)) (es' : List (AV × AV × Nat)) (l : List MapEntry), entrySet b0 v es = some es' → EL σ es l →
            ∃ j, l.findIdx? (fun e => (e.born : Int) == Int.ofNat b0) = some j ∧ EL σ es' (l.modify j fun e => { e with val := v' }) := by
          intro es
          induction es with
          | nil => intro es' l h; cases h
          | cons e es ih =>
            intro es' l h hl
            obtain ⟨k0, v0, c0⟩ := e
            obtain ⟨x, l', rfl, hx, hl'⟩ := hl.uncons
            simp only [entrySet] at h
            rw [List.findIdx?_cons]
            cases hc : Nat.beq c0 b0
            · rw [hc] at h
              simp only [cond_false] at h
              split at h
              · rename_i es'' hes''
                cases h
                obtain ⟨j, j1, j2⟩ := ih _ l' hes'' hl'
                have hne : ((x.born : Int) == Int.ofNat b0) = false := by
                  rw [hx.born]
                  have : ¬ c0 = b0 := by intro e; rw [e] at hc; simp at hc
                  simp; omega
                refine ⟨j + 1, by rw [hne, j1]; rfl, ?_⟩
                refine ⟨by simp [j2.1], fun i z hz => ?_⟩
                cases i with
                | zero => simp at hz; subst hz; exact ⟨x, by simp, hx⟩
                | succ i => simp at hz; obtain ⟨u, u1, u2⟩ := j2.2 i z hz; exact ⟨u, by simpa using u1, u2⟩
              · cases h
            · rw [hc] at h
              simp only [cond_true, Option.some.injEq] at h
              subst h
              have he : ((x.born : Int) == Int.ofNat b0) = true := by
                rw [hx.born]
                have : c0 = b0 := by simpa using hc
                simp [this]
              refine ⟨0, by rw [he]; rfl, ?_⟩
              refine ⟨by simp [hl'.1], fun i z hz => ?_⟩
              cases i with
              | zero => simp at hz; subst hz; exact ⟨_, rfl, hx.key, hv, hx.born⟩
              | succ i => simp at hz; obtain ⟨u, u1, u2⟩ := hl'.2 i z hz; exact ⟨u, by simpa using u1, u2⟩
        obtain ⟨j, j1, j2⟩ := key es es' l.toList hes l2
        obtain ⟨s1, s2⟩ := hs.turnObj r1 hg (fun _ _ => trivial) (.map es' clock) (.map (l.modify j fun e => { e with val := v' }) clock) (EL.to (by rw [Array.toList_modify]; exact j2) r)
        refine ⟨_, ?_, s1, s2⟩
        have hf : l.findIdx? (fun e => (e.born : Int) == Int.ofNat b0) = some j := by
          have e := List.findIdx?_toArray (p := fun e : MapEntry => (e.born : Int) == Int.ofNat b0) (l := l.toList)
          rw [Array.toArray_toList] at e
          exact e.trans j1
        simp only [Instr.entryStore, Sem.run_bind, run_getObj_at l1 (by simp), Result.andThen_ok, asInt, asIntOf, Sem.run_pure, hf, run_setObj_at _ l1 (by simp)]
      · cases h
    · cases h
  · cases h

theorem range_sound {σ : Own} {H H' : AH} {w : World} (hs : Sim G σ H w) {t : TypeId} {x v : AV} (h : rangeA P H t x = some (v, H')) {x' : Value} (hx : VR σ x x') : Eff G P σ w (Instr.range t x') v H' := by
  unfold rangeA at h
  split at h
  · rename_i s hu
    cases h
    cases hx with | str _ b hb =>
    obtain ⟨s1, s2⟩ := hs.new (.siter s 0) (.stringIter b 0) 0 0 ⟨b, rfl, hb⟩
    exact ⟨_, _, _, by simp only [Instr.range, Sem.run_bind, run_underlying hu, Result.andThen_ok, Sem.run_pure, run_newObj_alloc], .ptr _ _ _ _ _ (Own.set_same _ _ _) rfl (Nat.le_refl _), s1, s2⟩
  · rename_i k e hu
    cases h
    cases hx
    obtain ⟨s1, s2⟩ := hs.new (.iter none 0 [] 0) (.mapIter none 0 #[] 0) 0 0 ⟨none, rfl, rfl⟩
    exact ⟨_, _, _, by simp only [Instr.range, Sem.run_bind, run_underlying hu, Result.andThen_ok, Sem.run_pure, run_newObj_alloc], .ptr _ _ _ _ _ (Own.set_same _ _ _) rfl (Nat.le_refl _), s1, s2⟩
  · rename_i k e m hu
    split at h
    · rename_i es clock hg
      cases h
      cases hx with | map _ b r r1 r2 =>
      obtain ⟨l, l1, l2⟩ := map_at hs.toR hg r1 r2
      have hlt := hs.lt r1
      obtain ⟨s1, s2⟩ := hs.new (.iter (some m) clock [] clock) (.mapIter (some b) clock #[] clock) 0 0 ⟨some b, rfl, b, r, rfl, by rw [Own.set_other _ _ (Nat.ne_of_lt hlt)]; exact r1, r2⟩
      exact ⟨_, _, _, by simp only [Instr.range, Sem.run_bind, run_underlying hu, Result.andThen_ok, Sem.run_pure, run_getObj_at l1 (by simp), run_newObj_alloc], .ptr _ _ _ _ _ (Own.set_same _ _ _) rfl (Nat.le_refl _), s1, s2⟩
    · cases h
  · cases h

theorem sliceData_sound {σ : Own} {w : World} {x v : AV} (h : sliceDataA x = some v) {x' : Value} (hx : VR σ x x') (ts : Array TypeId) (ty : TypeId) : Yes P σ w (Builtin.unsafeSliceData_ ts ty #[x']) v := by
  unfold sliceDataA at h
  split at h
  · cases h; cases hx; exact ⟨_, rfl, .nilp⟩
  · obtain ⟨hb, h⟩ := bif_some h
    cases h
    rename_i id off len _ _
    cases hx with | slc _ _ _ _ _ b cap' r r1 r2 r3 r4 r5 r6 =>
    have h0 : cap' ≠ 0 := by have : 0 < len := by simpa [Nat.blt_eq] using hb
                             omega
    refine ⟨.pointer (some ⟨b, off, none⟩), ?_, .ptr _ _ _ _ r r1 r2 r3⟩
    change Sem.run P (if cap' ≠ 0 then pure (Value.pointer (some ⟨b, off, none⟩)) else _) w = _
    rw [if_pos h0]
    rfl
  · cases h

theorem minMax_sound {σ : Own} {w : World} (mx : Bool) : ∀ (l : List AV) (x v : AV) (ys : List Value) (y : Value), minMax mx x l = some v → VR σ x y → LR σ l ys →
    ∃ u, (ys.foldlM (if mx then Builtin.max2 else Builtin.min2) y).run P w = .ok u w ∧ VR σ v u
  | [], x, v, ys, y, h, hx, hl => by
    rw [hl.unnil]
    have : v = x := by cases x <;> (simp only [minMax, Option.some.injEq] at h; exact h.symm)
    subst this
    exact ⟨y, rfl, hx⟩
  | z :: l, x, v, ys, y, h, hx, hl => by
    obtain ⟨u, ys', rfl, hz, hl'⟩ := hl.uncons
    cases x <;> cases z <;> first
      | (simp [minMax] at h; done)
      | (rename_i k a k' b
         simp only [minMax] at h
         obtain ⟨hk, h9⟩ := bif_some h
         have := kindEq_eq hk
         subst this
         clear h
         rw [intLt_eq, intLt_eq] at h9
         cases hx; cases hz
         obtain ⟨q, q1, q2⟩ := minMax_sound mx l _ v ys' (.int k (if (if mx then decide (a < b) else decide (b < a)) then b else a)) h9 (by
           cases mx
           · by_cases hc : b < a <;> simp [hc] <;> exact .int _ _
           · by_cases hc : a < b <;> simp [hc] <;> exact .int _ _) hl'
         refine ⟨q, ?_, q2⟩
         rw [List.foldlM_cons]
         simp only [Sem.run_bind]
         cases mx
         · simp only [Bool.false_eq_true, if_false, Builtin.min2, Sem.run_pure, Result.andThen_ok] at q1 ⊢
           simpa using q1
         · simp only [if_true, Builtin.max2, Sem.run_pure, Result.andThen_ok] at q1 ⊢
           simpa using q1)
end Go.AM
namespace Go.AM
open Go
variable {G : Gh}
variable {P : Program}

theorem Sim.fork {σ : Own} {H : AH} {w : World} (h : Sim G σ H w) {id : Nat} {k : ABlk} (hg : H.get id = some k) (hlt : id < H.next) (hin : ∃ b r, σ b = some r ∧ r.id = id) (k' : ABlk) (m csz : Nat) (o : Obj)
    (hb : BR (σ.set w.heap.size ⟨id, m, csz⟩) k' ⟨id, m, csz⟩ o)
    (hv : ∀ x rx ox, σ x = some rx → rx.id = id → BR σ k rx ox → BR (σ.set w.heap.size ⟨id, m, csz⟩) k' rx ox)
    (hu : ∀ x x' rx rx', (σ.set w.heap.size ⟨id, m, csz⟩) x = some rx → (σ.set w.heap.size ⟨id, m, csz⟩) x' = some rx' → rx.id = id → rx'.id = id → UQ k' rx rx' → x = x') :
    Sim G (σ.set w.heap.size ⟨id, m, csz⟩) (H.put id k') (w.alloc o) ∧ Grw σ (σ.set w.heap.size ⟨id, m, csz⟩) w (w.alloc o) := by
  have hnone : σ w.heap.size = none := by
    cases e : σ w.heap.size with
    | none => rfl
    | some r => exact absurd (h.lt e) (Nat.lt_irrefl _)
  have hle : σ.le (σ.set w.heap.size ⟨id, m, csz⟩) := Own.le_set_new σ _ hnone
  refine ⟨⟨?_, ?_, ?_, ?_⟩, ⟨hle, by rw [alloc_size]; omega, ?_, rfl, rfl, rfl⟩⟩
  · intro x rx hx
    by_cases e : x = w.heap.size
    · subst e
      rw [Own.set_same] at hx; cases hx
      exact ⟨k', o, by rw [AH.get_put]; simp, alloc_new w o, hb⟩
    · rw [Own.set_other _ _ e] at hx
      obtain ⟨kx, ox, h1, h2, h3⟩ := h.blk x rx hx
      by_cases hid : rx.id = id
      · rw [hid, hg] at h1; cases h1
        exact ⟨k', ox, by rw [AH.get_put, if_pos hid], by rw [alloc_old w o (h.lt hx)]; exact h2, hv x rx ox hx hid h3⟩
      · exact ⟨kx, ox, by rw [AH.get_put, if_neg hid]; exact h1, by rw [alloc_old w o (h.lt hx)]; exact h2, h3.mono hle⟩
  · intro x x' rx rx' kx hx hx' hid hk huq
    by_cases hi : rx.id = id
    · rw [AH.get_put, if_pos hi] at hk; cases hk
      exact hu x x' rx rx' hx hx' hi (hid.symm.trans hi) huq
    · rw [AH.get_put, if_neg hi] at hk
      have e : x ≠ w.heap.size := by rintro rfl; rw [Own.set_same] at hx; cases hx; exact hi rfl
      have e' : x' ≠ w.heap.size := by rintro rfl; rw [Own.set_same] at hx'; cases hx'; exact hi hid
      rw [Own.set_other _ _ e] at hx
      rw [Own.set_other _ _ e'] at hx'
      exact h.uniq x x' rx rx' kx hx hx' hid hk huq
  · intro x rx hx
    rw [AH.next_put]
    by_cases e : x = w.heap.size
    · subst e; rw [Own.set_same] at hx; cases hx; exact hlt
    · rw [Own.set_other _ _ e] at hx; exact h.fresh x rx hx
  · intro g k0 hg0
    obtain ⟨g1, g2, g3⟩ := h.gh g k0 hg0
    obtain ⟨b, r, i1, i2⟩ := hin
    have hne : id ≠ g := by rw [← i2]; exact g3 b r i1
    refine ⟨by rw [AH.next_put]; exact g1, by rw [AH.get_put, if_neg (Ne.symm hne)]; exact g2, fun x rx hx => ?_⟩
    by_cases e : x = w.heap.size
    · subst e; rw [Own.set_same] at hx; cases hx; exact hne
    · rw [Own.set_other _ _ e] at hx; exact g3 x rx hx
  · intro x hx hn
    exact ⟨alloc_old w o hx, by rw [Own.set_other _ _ (Nat.ne_of_lt hx)]; exact hn⟩

/-- The cells that are appended. -/
theorem appended_sound {σ : Own} {H : AH} {w : World} (hs : Sim G σ H w) {esz : Nat} {x : AV} {l : List AV} {n : Nat} (h : appended H esz x = some (l, n)) {x' : Value} (hx : VR σ x x') :
    (∀ w2, (Builtin.lenOf x').run P w2 = .ok n w2) ∧ ∃ new : Array Value, (∀ w2 : World, w2.heap = w.heap → (Builtin.firstCells esz n x').run P w2 = .ok new w2) ∧ LR σ l new.toList ∧ l.length = n * esz := by
  unfold appended at h
  split at h
  · cases h; cases hx
    exact ⟨fun _ => rfl, #[], fun _ _ => rfl, LR.nil σ, by simp⟩
  · rename_i id off len cap sz
    obtain ⟨hb, h⟩ := bif_some h
    have hb' : sz = esz := by simpa using hb
    subst hb'
    split at h
    · rename_i l0 hl
      cases h
      cases hx with | slc _ _ _ _ _ b cap' r r1 r2 r3 r4 r5 r6 =>
      obtain ⟨ys, y1, y2, y3⟩ := cells_at hs.toR hl r1 r2 r3
      refine ⟨fun _ => rfl, ys.toArray, fun w2 hw2 => ?_, by simpa using y3, by rw [y3.1, y1]⟩
      have := run_loadCells_list (P := P) w2 ⟨b, off, none⟩ ys (fun j v hj => by
        have := y2 j v hj
        simp only [World.cell?] at this ⊢
        rw [hw2]; exact this)
      rw [y1] at this
      exact this
    · cases h
  · rename_i s
    obtain ⟨hb, h⟩ := bif_some h
    have hb' : esz = 1 := by simpa using hb
    subst hb'
    cases h
    cases hx with | str _ b hb =>
    subst hb
    refine ⟨fun _ => by simp [Builtin.lenOf, bytes_size], (b.data.map fun c => .int .u8 c.toNat), fun w2 _ => ?_, ?_, by simp⟩
    · simp only [Builtin.firstCells, Sem.run_pure, bytes_size]
      congr 2
      rw [ByteArray.data_extract]
      congr 1
      exact Array.extract_eq_self_of_le (by simp)
    · rw [Array.toList_map]
      simp only [bytesOf, List.map_map]
      exact LR.map _ _ (fun a => .int _ _) _
  · cases h

/-- WHAT append ANSWERS: in room, or in a new row. -/
theorem run_append_room' {w : World} {ts : Array TypeId} {t u e ty : TypeId} {du : TypeDesc} {esz n len cap : Nat} {base : Addr} {x' : Value} {new : Array Value} (ht : ts[0]? = some t) (hu : ts[1]? = some u)
    (h1 : P.underlying t = some (.slice e)) (h2 : P.underlying u = some du) (h3 : ∀ k, du ≠ .int k) (hz : sizeT P e = some esz) (hl : ∀ w2, (Builtin.lenOf x').run P w2 = .ok n w2)
    (hf : ∀ w2 : World, w2.heap = w.heap → (Builtin.firstCells esz n x').run P w2 = .ok new w2) (hc : len + n ≤ cap) {w' : World} (hst : (Go.storeCells (base.add (len * esz)) new.toList).run P w = .ok () w') :
    (Builtin.append_ ts ty #[.slice (some base) len cap, x']).run P w = .ok (.slice (some base) (len + n) cap) w' := by
  have e0 : (#[Value.slice (some base) len cap, x'] : Array Value)[0]? = some (.slice (some base) len cap) := rfl
  have e1 : (#[Value.slice (some base) len cap, x'] : Array Value)[1]? = some x' := rfl
  unfold Builtin.append_
  simp only [ht, hu, e0, e1, Sem.run_bind, run_underlying h1, Result.andThen_ok, run_sizeOf' e w esz hz, run_underlying h2, Sem.run_pure]
  cases du <;> first
  | exact absurd rfl (h3 _)
  | simp only [Bool.false_eq_true, if_false, Sem.run_bind, hl, Result.andThen_ok, if_pos hc, Bool.not_false, if_true, hf w rfl, hst, Sem.run_pure]

theorem run_append_nil0 {w : World} {ts : Array TypeId} {t u e ty : TypeId} {du : TypeDesc} {esz : Nat} {x' : Value} {new : Array Value} (ht : ts[0]? = some t) (hu : ts[1]? = some u)
    (h1 : P.underlying t = some (.slice e)) (h2 : P.underlying u = some du) (h3 : ∀ k, du ≠ .int k) (hz : sizeT P e = some esz) (hl : ∀ w2, (Builtin.lenOf x').run P w2 = .ok 0 w2)
    (hf : ∀ w2 : World, w2.heap = w.heap → (Builtin.firstCells esz 0 x').run P w2 = .ok new w2) :
    (Builtin.append_ ts ty #[.slice none 0 0, x']).run P w = .ok (.slice none 0 0) w := by
  have e0 : (#[Value.slice none 0 0, x'] : Array Value)[0]? = some (.slice none 0 0) := rfl
  have e1 : (#[Value.slice none 0 0, x'] : Array Value)[1]? = some x' := rfl
  have hc : 0 + 0 ≤ 0 := Nat.le_refl _
  unfold Builtin.append_
  simp only [ht, hu, e0, e1, Sem.run_bind, run_underlying h1, Result.andThen_ok, run_sizeOf' e w esz hz, run_underlying h2, Sem.run_pure]
  cases du <;> first
  | exact absurd rfl (h3 _)
  | simp only [Bool.false_eq_true, if_false, Sem.run_bind, hl, Result.andThen_ok, if_pos hc, Bool.not_false, if_true, hf w rfl, Sem.run_pure]

theorem run_append_grow' {w : World} {ts : Array TypeId} {t u e ty : TypeId} {du : TypeDesc} {i : TypeInfo} {z : Value} {n len cap : Nat} {base : Option Addr} {x' : Value} {old new : Array Value} (ht : ts[0]? = some t) (hu : ts[1]? = some u)
    (h1 : P.underlying t = some (.slice e)) (h2 : P.underlying u = some du) (h3 : ∀ k, du ≠ .int k) (hi : P.info? e = some i) (hz : i.zero = some z) (hl : ∀ w2, (Builtin.lenOf x').run P w2 = .ok n w2)
    (hold : ∀ w2 : World, w2.heap = w.heap → (Builtin.firstCells i.size len (.slice base len cap)).run P w2 = .ok old w2)
    (hf : ∀ w2 : World, w2.heap = w.heap → (Builtin.firstCells i.size n x').run P w2 = .ok new w2) (hc : ¬ (len + n ≤ cap)) (h63 : len + n ≤ 1000000) (hby : i.bytes ≤ 100000) :
    (Builtin.append_ ts ty #[.slice base len cap, x']).run P w = .ok (.slice (some ⟨w.heap.size, 0, none⟩) (len + n) (grownCap w (len + n) cap e))
      (w.drew.alloc (.cells (old ++ new ++ Builtin.zeroCells z.cells (grownCap w (len + n) cap e - (len + n))) e)) := by
  have e0 : (#[Value.slice base len cap, x'] : Array Value)[0]? = some (.slice base len cap) := rfl
  have e1 : (#[Value.slice base len cap, x'] : Array Value)[1]? = some x' := rfl
  have h63' : ¬ (((len + n : Nat) : Int) > IntKind.i64.max ∧ (False ∨ i.bytes = 0)) := by
    have : IntKind.i64.max = 9223372036854775807 := rfl
    rw [this]; omega
  have h48 : Builtin.nextslicecap (len + n) cap * i.bytes ≤ 281474976710656 := by
    apply growslice_fits (by omega)
    exact Nat.le_trans (Nat.mul_le_mul h63 hby) (by decide)
  have h48' : ¬ (Builtin.nextslicecap (len + n) cap * i.bytes > 2 ^ 48) := by omega
  have ho := hold w.drew rfl
  have hn := hf w.drew rfl
  have hsz : ∀ w : World, (sizeOf e).run P w = .ok i.size w := fun w => run_sizeOf' e w i.size (by simp [sizeT, hi])
  have hti : ∀ w : World, (typeInfo e).run P w = .ok i w := fun w => by simp [typeInfo, hi]
  have hzv : ∀ w : World, (zeroValue e).run P w = .ok z w := fun w => by simp [zeroValue, typeInfo, hi, hz]
  have hq : (Question.appendCap (len + n) cap e).forced = false := rfl
  unfold Builtin.append_
  simp only [ht, hu, e0, e1, Sem.run_bind, run_underlying h1, Result.andThen_ok, hsz, run_underlying h2, Sem.run_pure]
  cases du <;> first
  | exact absurd rfl (h3 _)
  | (simp only [Bool.false_eq_true, if_false, Sem.run_bind, hl, Result.andThen_ok, if_neg hc, Bool.not_false, if_true, hti, if_neg h63', if_neg h48', run_choose_drew, hq, run_askRoom, ho, hn, hzv, Sem.run_pure, newRow, run_newObj_alloc]; rfl)

theorem BR_row {σ : Own} {cs : List AV} {arr : Array Value} {rest : List Value} (e : TypeId) (ver fz id : Nat) {ys : List Value} (h : LR σ cs ys) (ha : arr.toList = ys ++ rest) :
    BR σ (.cells cs e ver fz) ⟨id, cs.length, arr.size⟩ (.cells arr e (0, 0)) := by
  have hsz : arr.size = ys.length + rest.length := by rw [← Array.length_toList, ha, List.length_append]
  refine ⟨arr, (0, 0), rfl, rfl, Nat.le_refl _, by simp only; rw [hsz, h.1]; omega, fun i x hi hx => ?_, .inl rfl, fun _ => rfl⟩
  obtain ⟨y, h1, h2⟩ := h.2 i x hx
  have : arr[i]? = some y := by
    rw [← Array.getElem?_toList, ha, List.getElem?_append_left (by rw [← h.1]; exact hi)]; exact h1
  rw [Array.getD_eq_getD_getElem?, this]; exact h2

theorem first_at {σ : Own} {H : AH} {w : World} (h : Sim G σ H w) {id off n lim : Nat} {l : List AV} (hl : loadCells H id off n lim = some l)
    {b : Nat} {r : Own1} (hr : σ b = some r) (hid : r.id = id) (hlim : lim ≤ r.m) {esz len cap : Nat} (hn : n = len * esz) :
    ∃ old : Array Value, (∀ w2 : World, w2.heap = w.heap → (Builtin.firstCells esz len (.slice (some ⟨b, off, none⟩) len cap)).run P w2 = .ok old w2) ∧ LR σ l old.toList := by
  obtain ⟨ys, y1, y2, y3⟩ := cells_at h.toR hl hr hid hlim
  refine ⟨ys.toArray, fun w2 hw2 => ?_, by simpa using y3⟩
  have := run_loadCells_list (P := P) w2 ⟨b, off, none⟩ ys (fun j v hj => by
    have := y2 j v hj
    simp only [World.cell?] at this ⊢
    rw [hw2]; exact this)
  rw [y1, hn] at this
  exact this

theorem append_sound {σ : Own} {H H' : AH} {w : World} (hs : Sim G σ H w) {ts : Array TypeId} {t u ty : TypeId} {du : TypeDesc} {s x v : AV} (h : appendA P H t s x = some (v, H')) (ht : ts[0]? = some t) (hu : ts[1]? = some u)
    (h2 : P.underlying u = some du) (h3 : ∀ k, du ≠ .int k) {s' x' : Value} (hss : VR σ s s') (hx : VR σ x x') : Eff G P σ w (Builtin.append_ ts ty #[s', x']) v H' := by
  unfold appendA at h
  split at h
  next e hte =>
    split at h
    next i hi =>
      simp only at h
      replace h := bif_some h
      obtain ⟨hc, h⟩ := h
      simp only [Bool.and_eq_true, Nat.blt_eq, Nat.ble_eq] at hc
      obtain ⟨⟨hc1, hc2⟩, hc3⟩ := hc
      obtain ⟨z, hz, hzs⟩ : ∃ z : Value, i.zero = some z ∧ z.cells.size = i.size := by
        split at hc3
        · rename_i zc hzc
          obtain ⟨i', z, k1, k2, rfl⟩ := zeroCells_some hzc
          rw [hi] at k1; cases k1
          exact ⟨z, k2, by simpa using hc3⟩
        · cases hc3
      have hsize : sizeT P e = some i.size := by simp [sizeT, hi]
      split at h
      next l n hap =>
        obtain ⟨hl, new, hf, hlr, hll⟩ := appended_sound (P := P) hs hap hx
        -- a new row
        have grow : ∀ (H2 : AH) (old : Array Value) (oldA : List AV) (len cap : Nat) (base : Option Addr), LR σ oldA old.toList → oldA.length = len * i.size →
            (∀ w2 : World, w2.heap = w.heap → (Builtin.firstCells i.size len (.slice base len cap)).run P w2 = .ok old w2) → ¬ (len + n ≤ cap) → len + n ≤ 1000000 → s' = .slice base len cap →
            ∃ (arr : Array Value) (cap2 : Nat) (rest : List Value), (Builtin.append_ ts ty #[s', x']).run P w = .ok (.slice (some ⟨w.heap.size, 0, none⟩) (len + n) cap2) (w.drew.alloc (.cells arr e)) ∧
              len + n ≤ cap2 ∧ arr.size = cap2 * i.size ∧ arr.toList = (old.toList ++ new.toList) ++ rest := by
          intro H2 old oldA len cap base ho hol hof hnc h63 e
          subst e
          have hge := grownCap_ge w (len + n) cap e
          refine ⟨_, _, _, run_append_grow' ht hu hte h2 h3 hi hz hl hof hf hnc h63 hc2, hge, ?_, by simp only [Array.toList_append]; rfl⟩
          have e1 : old.size = len * i.size := by have := ho.1; simp at this; omega
          have e2 : new.size = n * i.size := by have := hlr.1; simp at this; omega
          simp only [Array.size_append, size_zeroCells, hzs, e1, e2, ← Nat.add_mul]
          congr 1
          omega
        split at h
        · -- of nothing
          cases hss
          cases hn : Nat.beq n 0
          · rw [hn] at h
            simp only [cond_false] at h
            replace h := bif_some h
            obtain ⟨hb, h⟩ := h
            cases h
            have hn0 : n ≠ 0 := by intro e; rw [e] at hn; cases hn
            have hnb : n ≤ 1000000 := by simpa using hb
            obtain ⟨arr, cap2, rest, r1, r2, r3, r4⟩ := grow H #[] [] 0 0 none (LR.nil σ) (by simp) (fun w2 _ => by simp [Builtin.firstCells]) (by omega) (by omega) rfl
            have hb2 := fun σ' (hle : σ.le σ') => BR_row (σ := σ') e 0 0 H.next (hlr.mono hle) (rest := rest) (arr := arr) (by simpa using r4)
            obtain ⟨s1, s2⟩ := hs.drew.new (.cells l e 0 0) (.cells arr e) l.length arr.size (hb2 _ (Own.le_set_new σ _ (by
              cases e : σ w.drew.heap.size with
              | none => rfl
              | some r => exact absurd (hs.drew.lt e) (Nat.lt_irrefl _))))
            refine ⟨_, _, _, r1, ?_, s1, (Grw.drew σ w).trans s2⟩
            rw [Nat.zero_add]
            exact .slc _ _ _ _ _ _ _ _ (Own.set_same _ _ _) rfl (by simp only; omega) (by omega) (fun c hc => by cases hc) (by simp only; omega)
          · rw [hn] at h
            simp only [cond_true, Option.some.injEq, Prod.mk.injEq] at h
            obtain ⟨rfl, rfl⟩ := h
            have : n = 0 := by simpa using hn
            subst this
            exact ⟨_, _, _, run_append_nil0 ht hu hte h2 h3 hsize hl hf, .nils, hs, Grw.refl σ w⟩
        · -- of a row
          rename_i id off len cap sz
          replace h := bif_some h
          obtain ⟨hb, h⟩ := h
          simp only [Bool.and_eq_true, Nat.beq_eq, Nat.ble_eq] at hb
          obtain ⟨hb1, hb2⟩ := hb
          subst hb1
          cases hss with | slc _ _ _ _ _ b cap' r r1 r2 r3 r4 r5 r6 =>
          split at h
          · rename_i cs e' ver fz hg
            replace h := bif_some h
            obtain ⟨hee, h⟩ := h
            have hee' : e = e' := by simpa using hee
            subst hee'
            split at h
            · rename_i c
              obtain ⟨rfl, r7⟩ := r5 c rfl
              cases hroom : Nat.ble (len + n) cap'
              · rw [hroom] at h
                simp only [cond_false] at h
                have hnr : ¬ (len + n ≤ cap') := by intro e; rw [← Nat.ble_eq, hroom] at e; cases e
                split at h
                · rename_i oldA hold
                  cases h
                  obtain ⟨old, ho1, ho2⟩ := first_at (P := P) hs hold r1 r2 r3 (esz := i.size) (len := len) (cap := cap') rfl
                  have holen : oldA.length = len * i.size := by
                    obtain ⟨ys, y1, y2, y3⟩ := cells_at hs.toR hold r1 r2 r3
                    rw [y3.1, y1]
                  obtain ⟨arr, cap2, rest, q1, q2, q3, q4⟩ := grow H old oldA len cap' _ ho2 holen ho1 hnr hb2 rfl
                  have hbr := fun σ' (hle : σ.le σ') => BR_row (σ := σ') e 0 0 H.next ((ho2.append hlr).mono hle) (rest := rest) (arr := arr) q4
                  obtain ⟨s1, s2⟩ := hs.drew.new (.cells (oldA ++ l) e 0 0) (.cells arr e) (oldA ++ l).length arr.size (hbr _ (Own.le_set_new σ _ (by
                    cases e : σ w.drew.heap.size with
                    | none => rfl
                    | some r => exact absurd (hs.drew.lt e) (Nat.lt_irrefl _))))
                  refine ⟨_, _, _, q1, ?_, s1, (Grw.drew σ w).trans s2⟩
                  exact .slc _ _ _ _ _ _ _ _ (Own.set_same _ _ _) rfl (by simp only [List.length_append]; rw [holen, hll, Nat.add_mul]; omega) (by omega) (fun c hc => by cases hc) (by simp only; omega)
                · cases h
              · rw [hroom] at h
                simp only [cond_true] at h
                have hr : len + n ≤ cap' := by simpa using hroom
                replace h := bif_some h
                obtain ⟨hone, h⟩ := h
                split at h
                · rename_i H2 hst
                  cases h
                  obtain ⟨w', k1, k2, k3⟩ := storeCells_sound (P := P) hs hst hone r1 r2 r7 hlr
                  have hm := Nat.mul_le_mul_right i.size hr
                  refine ⟨_, _, _, run_append_room' ht hu hte h2 h3 hsize hl hf hr (by rw [add_none]; exact k1), ?_, k2, k3⟩
                  exact .slc _ _ _ _ _ _ _ r r1 r2 (by omega) hr r5 r6
                · cases h
            · cases hn : Nat.beq n 0
              · rw [hn] at h
                simp only [cond_false] at h
                replace h := bif_some h
                obtain ⟨hd, h⟩ := h
                cases h
                simp only [Bool.and_eq_true, Nat.beq_eq, Nat.ble_eq] at hd
                obtain ⟨⟨⟨hd1, hd2⟩, hd3⟩, hone⟩ := hd
                subst hd2
                rw [Nat.zero_add] at hd1
                obtain ⟨k0, o, g1, g2, g3⟩ := hs.blk b r r1
                rw [r2, hg] at g1; cases g1
                obtain ⟨c, fr, rfl, c1, c2, c3, c4, c5⟩ := g3
                have hrm : r.m = cs.length := by omega
                have hn0 : n ≠ 0 := by intro e; rw [e] at hn; cases hn
                have hlen : (cs ++ l).length = (len + n) * i.size := by rw [List.length_append, hll, Nat.add_mul]; omega
                -- what other versions hold
                have hold : ∀ (σ' : Own), σ.le σ' → ∀ rx ox, BR σ (.cells cs e ver fz) rx ox → BR σ' (.cells (cs ++ l) e cs.length fz) rx ox := by
                  intro σ' hle rx ox hbr
                  obtain ⟨cx, frx, rfl, d1, d2, d3, d4, d5⟩ := hbr
                  refine ⟨cx, frx, rfl, d1, by rw [List.length_append]; omega, d3, fun j y hj hy => ?_, d5⟩
                  rw [List.getElem?_append_left (by omega)] at hy
                  exact (d4 j y hj hy).mono hle
                by_cases hr : len + n ≤ cap'
                · obtain ⟨w', hrun, hst⟩ := run_storeCells_fr (P := P) b (0 + len * i.size) e fr new.toList 0 c w g2 (by
                      have := Nat.mul_le_mul_right i.size hr
                      have e2 : new.toList.length = n * i.size := by have := hlr.1; omega
                      rw [e2, c1]
                      rw [Nat.add_mul] at this
                      omega)
                    (fun j hj hj' hf => by rcases c5 with c5 | c5 <;> omega) (hlr.one hone)
                  obtain ⟨c', k1, k2, k3⟩ := hst.now
                  have hst2 := hs.turn r1 (.cells (cs ++ l) e cs.length fz) (cs ++ l).length (by rw [List.length_append]; omega) w' hst.size hst.oth hst.os hst.tape hst.out _ k1
                  have hle : σ.le (σ.set b ⟨r.id, (cs ++ l).length, r.csz⟩) := fun x rx hx => by
                    by_cases e : x = b
                    · subst e; rw [r1] at hx; cases hx; exact ⟨_, Own.set_same _ _ _, rfl, by simp only [List.length_append]; omega, rfl⟩
                    · exact ⟨rx, by rw [Own.set_other _ _ e]; exact hx, rfl, Nat.le_refl _, rfl⟩
                  have hst3 := hst2 (by
                      refine ⟨c', fr, rfl, k2.trans c1, Nat.le_refl _, ?_, ?_, c5⟩
                      · simp only; rw [hlen]
                        have := Nat.mul_le_mul_right i.size hr
                        omega
                      · intro j y hj hy
                        rw [k3 j]
                        simp only [Nat.zero_add, Nat.add_zero]
                        by_cases hin : len * i.size ≤ j ∧ j < len * i.size + new.toList.length
                        · rw [if_pos hin]
                          rw [List.getElem?_append_right (by omega)] at hy
                          obtain ⟨q, q1, q2⟩ := hlr.2 _ y hy
                          rw [hd1, List.getD_eq_getElem?_getD, q1]; exact q2.mono hle
                        · rw [if_neg hin]
                          have hj2 : j < cs.length + l.length := by simpa using hj
                          have := hlr.1
                          rw [List.getElem?_append_left (by omega)] at hy
                          exact (c4 j y (by omega) hy).mono hle)
                    (fun x rx o hx hxr hxid ho k0 hk0 hbr => by
                      rw [r2, hg] at hk0; cases hk0
                      exact hold _ hle rx o hbr)
                    (fun x x' rx rx' hx hx' hxid hxid' hu => by
                      obtain ⟨j, j1, j2, j3⟩ := hu
                      have only : ∀ (x : Nat) (rx : Own1), (σ.set b ⟨r.id, (cs ++ l).length, r.csz⟩) x = some rx → rx.id = r.id → j < rx.m → x = b := by
                        intro x rx hx hid hj
                        by_cases e : x = b
                        · exact e
                        · rw [Own.set_other _ _ e] at hx
                          obtain ⟨kx, ox, p1, p2, p3⟩ := hs.blk x rx hx
                          rw [hid, r2, hg] at p1; cases p1
                          obtain ⟨_, _, _, _, d2, _⟩ := p3
                          omega
                      rw [only x rx hx hxid j2, only x' rx' hx' hxid' j3])
                  rw [r2] at hst3
                  refine ⟨_, _, _, run_append_room' ht hu hte h2 h3 hsize hl hf hr (by rw [add_none]; exact hrun), ?_, hst3.1, hst3.2⟩
                  exact .slc _ _ _ _ _ _ _ _ (Own.set_same _ _ _) rfl (by simp only; omega) hr (fun c hc => by cases hc) (by simp only; exact r6)
                · have hload : loadCells H id 0 (len * i.size) (len * i.size) = some cs := by
                    unfold loadCells
                    rw [hg]
                    have hbl : cs.length.ble cs.length = true := by rw [Nat.ble_eq]; exact Nat.le_refl _
                    simp [hd1, hbl]
                  obtain ⟨old, ho1, ho2⟩ := first_at (P := P) hs hload r1 r2 (by omega) (esz := i.size) (len := len) (cap := cap') rfl
                  obtain ⟨arr, cap2, rest, q1, q2, q3, q4⟩ := grow H old cs len cap' _ ho2 hd1.symm ho1 hr hb2 rfl
                  have hnone : σ w.drew.heap.size = none := by
                    cases e : σ w.drew.heap.size with
                    | none => rfl
                    | some r => exact absurd (hs.drew.lt e) (Nat.lt_irrefl _)
                  have hle : σ.le (σ.set w.drew.heap.size ⟨id, (cs ++ l).length, arr.size⟩) := Own.le_set_new σ _ hnone
                  obtain ⟨s1, s2⟩ := hs.drew.fork hg (by have := hs.fresh b r r1; omega) ⟨b, r, r1, r2⟩ (.cells (cs ++ l) e cs.length fz) (cs ++ l).length arr.size (.cells arr e)
                    (BR_row e _ _ id ((ho2.append hlr).mono hle) q4)
                    (fun x rx ox hx hxid hbr => hold _ hle rx ox hbr)
                    (fun x x' rx rx' hx hx' hxid hxid' hu => by
                      obtain ⟨j, j1, j2, j3⟩ := hu
                      have only : ∀ (x : Nat) (rx : Own1), (σ.set w.drew.heap.size ⟨id, (cs ++ l).length, arr.size⟩) x = some rx → rx.id = id → j < rx.m → x = w.drew.heap.size := by
                        intro x rx hx hid hj
                        by_cases e : x = w.drew.heap.size
                        · exact e
                        · rw [Own.set_other _ _ e] at hx
                          obtain ⟨kx, ox, p1, p2, p3⟩ := hs.blk x rx hx
                          rw [hid, hg] at p1; cases p1
                          obtain ⟨_, _, _, _, d2, _⟩ := p3
                          omega
                      rw [only x rx hx hxid j2, only x' rx' hx' hxid' j3])
                  refine ⟨_, _, _, q1, ?_, s1, (Grw.drew σ w).trans s2⟩
                  exact .slc _ _ _ _ _ _ _ _ (Own.set_same _ _ _) rfl (by simp only; omega) (by omega) (fun c hc => by cases hc) (by simp only; omega)
              · rw [hn] at h
                simp only [cond_true, Option.some.injEq, Prod.mk.injEq] at h
                obtain ⟨rfl, rfl⟩ := h
                have : n = 0 := by simpa using hn
                subst this
                have hnil : new.toList = [] := by
                  have := hlr.1
                  have h0 : new.toList.length = 0 := by omega
                  exact List.eq_nil_of_length_eq_zero h0
                refine ⟨_, _, _, run_append_room' (w' := w) ht hu hte h2 h3 hsize hl hf (by omega) (by rw [hnil]; rfl), ?_, hs, Grw.refl σ w⟩
                exact .slc _ _ _ _ _ _ _ r r1 r2 r3 r4 r5 r6
          · cases h
        · cases h
      · cases h
    · cases h
  · cases h
end Go.AM
namespace Go.AM
open Go
variable {G : Gh}
variable {P : Program}

/-! ### The externs -/
theorem idx_find (c : Nat) (p : Nat → Bool) : ∀ (l : List Nat) (i : Nat), (∀ j x, l[j]? = some x → p (i + j) = Nat.beq x c) →
    (match (List.range' i l.length).find? p with | some k => (k : Int) | none => -1) = idxByte c l i
  | [], i, h => by simp [idxByte]
  | x :: l, i, h => by
    have h0 := h 0 x rfl
    rw [Nat.add_zero] at h0
    rw [List.length_cons, List.range'_succ, List.find?_cons, h0]
    unfold idxByte
    cases hc : Nat.beq x c
    · simp only [cond_false]
      exact idx_find c p l (i + 1) (fun j y hj => by
        have := h (j + 1) y (by simpa using hj)
        rw [← this]; congr 1; omega)
    · rfl

theorem bytes_at {b : ByteArray} {j x : Nat} (h : (bytesOf b)[j]? = some x) : b[j]!.toNat = x ∧ j < b.size := by
  have hlt := (List.getElem?_eq_some_iff.1 h).1
  rw [bytes_size] at hlt
  refine ⟨?_, hlt⟩
  have h2 := (List.getElem?_eq_some_iff.1 h).2
  rw [getElem!_pos b j hlt]
  simp only [bytesOf, List.getElem_map] at h2
  exact h2

theorem indexByte_sound {σ : Own} {w : World} {s : List Nat} {n : Nat} {a b : Value} (ha : VR σ (.str s) a) (hb : VR σ (.int .u8 (.ofNat n)) b) (hn : n < 256) :
    Yes P σ w (Extern.BytealgIndexByte.indexByte #[a, b]) (.int .i64 (idxByte n s 0)) := by
  cases ha with | str _ b hb' =>
  cases hb
  subst hb'
  refine ⟨.int .i64 (idxByte n (bytesOf b) 0), ?_, .int _ _⟩
  have key := idx_find n (fun i => b[i]! == (Int.ofNat n).toNat.toUInt8) (bytesOf b) 0 (fun j x hj => by
    obtain ⟨h1, h2⟩ := bytes_at hj
    rw [Nat.zero_add, ← h1, Bool.eq_iff_iff]
    simp only [beq_iff_eq, Nat.beq_eq]
    constructor
    · intro e; rw [e]; simp; omega
    · intro e
      apply UInt8.toNat_inj.1
      rw [e]; simp; omega)
  rw [bytes_size, ← List.range_eq_range'] at key
  have hd : Extern.BytealgIndexByte.indexByte #[.string b, .int .u8 (.ofNat n)] = (match (List.range b.size).find? fun i => b[i]! == (Int.ofNat n).toNat.toUInt8 with | some i => pure (goInt i) | none => pure (goInt (-1))) := rfl
  rw [hd, ← key]
  cases (List.range b.size).find? (fun i => b[i]! == (Int.ofNat n).toNat.toUInt8) <;> rfl

theorem cmp_find (ne lt : Nat → Bool) : ∀ (a b : List Nat) (i : Nat), (∀ j x y, a[j]? = some x → b[j]? = some y → ne (i + j) = !(Nat.beq x y) ∧ lt (i + j) = Nat.blt x y) →
    (match (List.range' i (min a.length b.length)).find? ne with | some k => (if lt k then -1 else 1) | none => if a.length < b.length then -1 else if a.length > b.length then (1 : Int) else 0) = cmpList a b
  | [], [], i, h => by simp [cmpList]
  | [], y :: b, i, h => by simp [cmpList]
  | x :: a, [], i, h => by simp [cmpList]
  | x :: a, y :: b, i, h => by
    obtain ⟨h0, h1⟩ := h 0 x y rfl rfl
    rw [Nat.add_zero] at h0 h1
    rw [List.length_cons, List.length_cons, Nat.succ_min_succ, List.range'_succ, List.find?_cons, h0]
    unfold cmpList
    cases hc : Nat.beq x y
    · have hne : x ≠ y := by intro e; rw [e] at hc; simp at hc
      simp only [Bool.not_false, h1]
      cases hl : Nat.blt x y
      · have : Nat.blt y x = true := by
          rw [Nat.blt_eq]
          have : ¬ x < y := by intro e; rw [← Nat.blt_eq, hl] at e; cases e
          omega
        rw [this]; rfl
      · rfl
    · have he : x = y := by simpa using hc
      subst he
      have hl : Nat.blt x x = false := by
        cases e : Nat.blt x x
        · rfl
        · rw [Nat.blt_eq] at e; omega
      simp only [Bool.not_true, hl, cond_false]
      have := cmp_find ne lt a b (i + 1) (fun j u v hu hv => by
        have := h (j + 1) u v (by simpa using hu) (by simpa using hv)
        rw [show i + 1 + j = i + (j + 1) by omega]
        exact this)
      rw [← this]
      simp only [Nat.add_lt_add_iff_right, gt_iff_lt]

theorem compare_sound {σ : Own} {w : World} {s t : List Nat} {a b : Value} (ha : VR σ (.str s) a) (hb : VR σ (.str t) b) :
    Yes P σ w (Extern.BytealgCompare.compare #[a, b]) (.int .i64 (cmpList s t)) := by
  cases ha with | str _ a ha' =>
  cases hb with | str _ b hb' =>
  subst ha'; subst hb'
  refine ⟨.int .i64 (cmpList (bytesOf a) (bytesOf b)), ?_, .int _ _⟩
  have key := cmp_find (fun i => a[i]! != b[i]!) (fun i => decide (a[i]! < b[i]!)) (bytesOf a) (bytesOf b) 0 (fun j x y hx hy => by
    obtain ⟨h1, _⟩ := bytes_at hx
    obtain ⟨h3, _⟩ := bytes_at hy
    rw [Nat.zero_add, ← h1, ← h3]
    constructor
    · rw [Bool.eq_iff_iff]
      simp only [bne_iff_ne, ne_eq, Bool.not_eq_true', ← Bool.not_eq_true, Nat.beq_eq]
      rw [UInt8.toNat_inj]
    · rw [Bool.eq_iff_iff]
      simp only [decide_eq_true_eq, Nat.blt_eq]
      exact UInt8.lt_iff_toNat_lt)
  rw [bytes_size, bytes_size, ← List.range_eq_range'] at key
  have hd : Extern.BytealgCompare.compare #[.string a, .string b] = pure (goInt (Extern.BytealgCompare.cmp a b)) := rfl
  rw [hd, ← key]
  unfold Extern.BytealgCompare.cmp
  cases (List.range (min a.size b.size)).find? (fun i => a[i]! != b[i]!) <;> simp [goInt]

/-! ### Copy -/
theorem appended_take {σ : Own} {H : AH} {w : World} (hs : Sim G σ H w) {esz : Nat} {x : AV} {l : List AV} {n : Nat} (h : appended H esz x = some (l, n)) {x' : Value} (hx : VR σ x x') {m : Nat} (hm : m ≤ n) :
    ∃ new : Array Value, (Builtin.firstCells esz m x').run P w = .ok new w ∧ LR σ (l.take (m * esz)) new.toList := by
  unfold appended at h
  split at h
  · cases h; cases hx
    exact ⟨#[], rfl, by simpa using LR.nil σ⟩
  · rename_i id off len cap sz
    obtain ⟨hb, h⟩ := bif_some h
    have hb' : sz = esz := by simpa using hb
    subst hb'
    split at h
    · rename_i l0 hl
      cases h
      cases hx with | slc _ _ _ _ _ b cap' r r1 r2 r3 r4 r5 r6 =>
      obtain ⟨ys, y1, y2, y3⟩ := cells_at hs.toR hl r1 r2 r3
      refine ⟨(ys.take (m * sz)).toArray, ?_, by simpa using y3.take (m * sz)⟩
      have := run_loadCells_list (P := P) w ⟨b, off, none⟩ (ys.take (m * sz)) (fun j v hj => by
        rw [List.getElem?_take] at hj
        split at hj
        · exact y2 j v hj
        · cases hj)
      have hle := Nat.mul_le_mul_right sz hm
      rw [List.length_take, y1, Nat.min_eq_left hle] at this
      exact this
    · cases h
  · rename_i s
    obtain ⟨hb, h⟩ := bif_some h
    have hb' : esz = 1 := by simpa using hb
    subst hb'
    cases h
    cases hx with | str _ b hb =>
    subst hb
    refine ⟨((b.extract 0 m).data.map fun c => .int .u8 c.toNat), rfl, ?_⟩
    rw [Array.toList_map, ByteArray.data_extract, Array.toList_extract, List.extract_eq_take_drop, List.drop_zero, Nat.sub_zero, Nat.mul_one]
    simp only [bytesOf, List.map_map, ← List.map_take]
    exact LR.map _ _ (fun a => .int _ _) _
  · cases h

theorem copy_sound {σ : Own} {H H' : AH} {w : World} (hs : Sim G σ H w) {ts : Array TypeId} {t ty : TypeId} {d x v : AV} (h : copyA P H t d x = some (v, H')) (ht : ts[0]? = some t) {d' x' : Value} (hd : VR σ d d') (hx : VR σ x x') :
    Eff G P σ w (Builtin.copy_ ts ty #[d', x']) v H' := by
  have e0 : (#[d', x'] : Array Value)[0]? = some d' := rfl
  have e1 : (#[d', x'] : Array Value)[1]? = some x' := rfl
  unfold copyA at h
  split at h
  · rename_i e hu
    split at h
    · rename_i esz hz
      split at h
      · rename_i id off len cap sz l n hap
        replace h := bif_some h
        obtain ⟨hc, h⟩ := h
        simp only [Bool.and_eq_true, Nat.beq_eq, Nat.blt_eq] at hc
        obtain ⟨⟨hc1, hc2⟩, hc3⟩ := hc
        subst hc1
        have hmin : (bif Nat.ble n len then n else len) = Nat.min n len := by
          cases hb : Nat.ble n len
          · have : ¬ n ≤ len := by intro e; rw [← Nat.ble_eq, hb] at e; cases e
            simp only [cond_false]; exact (Nat.min_eq_right (by omega)).symm
          · have : n ≤ len := by simpa using hb
            simp only [cond_true]; exact (Nat.min_eq_left this).symm
        simp only [hmin] at h
        split at h
        · rename_i H2 hst
          cases h
          cases hd with | slc _ _ _ _ _ b cap' r r1 r2 r3 r4 r5 r6 =>
          obtain ⟨hl, _⟩ := appended_sound (P := P) hs hap hx
          obtain ⟨new, k1, k2⟩ := appended_take (P := P) hs hap hx (Nat.min_le_left n len)
          have hone : (l.take (Nat.min n len * sz)).all AV.one = true := by
            rw [List.all_eq_true] at hc3 ⊢
            exact fun y hy => hc3 y (List.mem_of_mem_take hy)
          obtain ⟨w', q1, q2, q3⟩ := storeCells_sound (P := P) hs hst hone r1 r2 r3 k2
          refine ⟨_, w', σ, ?_, .int .i64 _, q2, q3⟩
          unfold Builtin.copy_
          simp only [ht, e0, e1, Sem.run_bind, run_underlying hu, Result.andThen_ok, hl, run_sizeOf' e w sz hz, k1, q1, Sem.run_pure]
          rfl
        · cases h
      · rename_i hap
        cases h
        rename_i p
        obtain ⟨l, n⟩ := p
        obtain ⟨hl, _⟩ := appended_sound (P := P) hs hap hx
        obtain ⟨new, k1, k2⟩ := appended_take (P := P) hs hap hx (m := 0) (Nat.zero_le n)
        cases hd
        refine ⟨.int .i64 0, w, σ, ?_, .int .i64 0, hs, Grw.refl σ w⟩
        unfold Builtin.copy_
        simp only [ht, e0, e1, Sem.run_bind, run_underlying hu, Result.andThen_ok, hl, run_sizeOf' e w esz hz, Sem.run_pure, show Nat.min n 0 = 0 from Nat.min_zero n, k1]
        rfl
      · cases h
    · cases h
  · cases h

/-! ### A string over bytes that lie in memory -/
theorem run_loadBytes' (w : World) : ∀ (l : List AV) (s : List Nat) (ys : List Value) (a : Addr) (acc : ByteArray) {σ : Own}, bytesA l = some s → LR σ l ys → (∀ j v, ys[j]? = some v → w.cell? (a.add j) = some v) → a.spot = none →
    ∃ b : ByteArray, (loadBytes a acc s.length).run P w = .ok b w ∧ bytesOf b = bytesOf acc ++ s
  | [], s, ys, a, acc, σ, h, hl, hc, hsp => by
    cases h
    exact ⟨acc, rfl, by simp⟩
  | x :: l, s, ys, a, acc, σ, h, hl, hc, hsp => by
    obtain ⟨y, ys', rfl, hy, hys⟩ := hl.uncons
    cases x with
    | int k n =>
      cases k <;> cases n <;> first
        | (simp [bytesA] at h; done)
        | (rename_i n
           simp only [bytesA] at h
           obtain ⟨hb, h⟩ := bif_some h
           have hb' : n < 256 := by simpa [Nat.blt_eq] using hb
           split at h
           · rename_i r hr
             cases h
             cases hy
             have h0 := hc 0 _ rfl
             obtain ⟨ab, ao, asp⟩ := a
             simp only at hsp
             subst hsp
             rw [add_none, Nat.add_zero] at h0
             obtain ⟨b, h1, h2⟩ := run_loadBytes' w l r ys' ((⟨ab, ao, none⟩ : Addr).add 1) (acc.push (Int.ofNat n).toNat.toUInt8) hr hys (fun j v hj => by
               have := hc (j + 1) v (by simpa using hj)
               rw [add_none] at this ⊢
               rw [add_none, Nat.add_assoc, Nat.add_comm 1 j]; exact this) (by rw [add_none])
             refine ⟨b, ?_, ?_⟩
             · simp only [List.length_cons, loadBytes, Sem.run_bind, run_load, h0, Result.andThen_ok]
               exact h1
             · rw [h2]
               simp only [bytesOf, ByteArray.data_push, Array.toList_push, List.map_append, List.map_cons, List.map_nil, List.append_assoc, List.singleton_append]
               congr 2
               simp
               omega
           · cases h)
    | _ => simp [bytesA] at h

theorem run_elemOf' {t u : TypeId} (h : P.underlying t = some (.pointer u)) (w : World) : (elemOf t).run P w = .ok u w := by
  simp [elemOf, run_underlying h]

theorem freeze_heap {w : World} {b off k : Nat} {c : Array Value} {e : TypeId} {fr : Nat × Nat} (h : w.heap[b]? = some (.cells c e fr)) (hk : k ≠ 0) {fz : Nat} (hf : (fr.1 = fr.2 ∨ fr.2 ≤ fz) ∧ (fz = 0 → fr = (0, 0))) {fz' : Nat} (h1 : fz ≤ fz') (h2 : off + k ≤ fz') :
    ∃ fr' : Nat × Nat, (w.freeze ⟨b, off, none⟩ k).heap[b]? = some (.cells c e fr') ∧ (fr'.1 = fr'.2 ∨ fr'.2 ≤ fz') ∧ (fz' = 0 → fr' = (0, 0)) := by
  obtain ⟨lo, hi⟩ := fr
  have hf := hf.1
  have hb : (w.freeze ⟨b, off, none⟩ k).heap[b]? = some (.cells c e (if lo == hi then (off, off + k) else (min lo off, max hi (off + k)))) := by
    simp [World.freeze, hk, Array.getElem?_modify, h]
  refine ⟨_, hb, .inr ?_, fun h0 => by omega⟩
  by_cases e : lo = hi
  · subst e
    simpa using h2
  · have e' : (lo == hi) = false := by simpa using e
    rw [e']
    simp only [Bool.false_eq_true, if_false]
    simp only at hf
    omega

theorem unsafeString_sound {σ : Own} {H H' : AH} {w : World} (hs : Sim G σ H w) {ts : Array TypeId} {t ty : TypeId} {x n v : AV} (h : unsafeStringA P H t x n = some (v, H')) (ht : ts[0]? = some t) {x' n' : Value} (hx : VR σ x x') (hn : VR σ n n') :
    Eff G P σ w (Builtin.unsafeString_ ts ty #[x', n']) v H' := by
  unfold unsafeStringA at h
  split at h
  · rename_i hk
    cases h
    obtain ⟨k, rfl⟩ := asNat_inv hk hn
    cases hx
    refine ⟨.string .empty, w, σ, ?_, .str _ _ rfl, hs, Grw.refl σ w⟩
    have hd : Builtin.unsafeString_ ts ty #[.pointer none, .int k (Int.ofNat 0)] = (do
      let some pt := ts[0]? | stuck "unsafe.String: no argument types"
      pure (.string .empty)) := by
      unfold Builtin.unsafeString_
      rfl
    rw [hd, ht]; rfl
  · rename_i u id off lim k hu hk
    obtain ⟨kk, rfl⟩ := asNat_inv hk hn
    cases hx with | ptr _ _ _ b r r1 r2 r3 =>
    cases hk0 : Nat.beq k 0
    · rw [hk0] at h
      simp only [cond_false] at h
      have hkn : k ≠ 0 := by intro e; rw [e] at hk0; cases hk0
      split at h
      · rename_i cs e ver fz hg hub hsz
        replace h := bif_some h
        obtain ⟨he, h⟩ := h
        simp only [Bool.and_eq_true, Nat.beq_eq, Nat.ble_eq] at he
        obtain ⟨rfl, hkm⟩ := he
        split at h
        · rename_i l hl
          split at h
          · rename_i s hsb
            cases h
            obtain ⟨ys, y1, y2, y3⟩ := cells_at hs.toR hl r1 r2 r3
            have hslen : s.length = k := by
              have : ∀ (l : List AV) (s : List Nat), bytesA l = some s → s.length = l.length := by
                intro l
                induction l with
                | nil => intro s h; cases h; rfl
                | cons a l ih =>
                  intro s h
                  cases a with
                  | int q m =>
                    cases q <;> cases m <;> first
                      | (simp [bytesA] at h; done)
                      | (simp only [bytesA] at h
                         obtain ⟨_, h⟩ := bif_some h
                         split at h
                         · rename_i r hr
                           cases h
                           simp [ih r hr]
                         · cases h)
                  | _ => simp [bytesA] at h
              rw [this l s hsb, y3.1, y1]
            obtain ⟨bb, b1, b2⟩ := run_loadBytes' (P := P) w l s ys ⟨b, off, none⟩ .empty hsb y3 y2 rfl
            rw [hslen] at b1
            obtain ⟨k0, o, g1, g2, g3⟩ := hs.blk b r r1
            rw [r2, hg] at g1; cases g1
            obtain ⟨c, fr, rfl, c1, c2, c3, c4, c5⟩ := g3
            have hlk : off + k ≤ lim := by
              unfold loadCells at hl
              rw [hg] at hl
              obtain ⟨hl, _⟩ := bif_some hl
              simp only [Bool.and_eq_true, Nat.ble_eq] at hl
              exact hl.1
            have hva := variablesAt_head (P := P) (u := e) (k := k) g2 off hsz (by decide) (Nat.mod_one _) (by rw [Nat.div_one, Nat.div_one]; omega) rfl
            have hmono : fz ≤ (bif Nat.ble (off + k) fz then fz else off + k) := by
              cases hb : Nat.ble (off + k) fz
              · have : ¬ off + k ≤ fz := by intro e; rw [← Nat.ble_eq, hb] at e; cases e
                simp only [cond_false]; omega
              · simp only [cond_true]; exact Nat.le_refl _
            have hmono2 : off + k ≤ (bif Nat.ble (off + k) fz then fz else off + k) := by
              cases hb : Nat.ble (off + k) fz
              · simp only [cond_false]; exact Nat.le_refl _
              · simp only [cond_true]; simpa using hb
            generalize (bif Nat.ble (off + k) fz then fz else off + k) = fz' at hmono hmono2 ⊢
            obtain ⟨fr', f1, f2⟩ := freeze_heap (off := off) g2 hkn c5 hmono hmono2
            have hturn := hs.turn r1 (.cells cs e ver fz') r.m (Nat.le_refl _) (w.freeze ⟨b, off, none⟩ k) (by unfold World.freeze; split <;> simp)
              (fun x hx => by unfold World.freeze; split <;> simp [Array.getElem?_modify, Ne.symm hx])
              (by unfold World.freeze; split <;> rfl) (by unfold World.freeze; split <;> rfl) (by unfold World.freeze; split <;> rfl) _ f1
              (by
                rw [Own.set_self σ r1]
                exact ⟨c, fr', rfl, c1, c2, c3, c4, f2⟩)
              (fun x rx o hx hxr hxid ho k0 hk0 hbr => by
                rw [Own.set_self σ r1]
                rw [r2, hg] at hk0; cases hk0
                obtain ⟨cx, frx, rfl, d1, d2, d3, d4, d5⟩ := hbr
                exact ⟨cx, frx, rfl, d1, d2, d3, d4, d5.1.imp (fun q => q) fun q => Nat.le_trans q hmono, fun h0 => d5.2 (by omega)⟩)
              (fun x x' rx rx' hx hx' hxid hxid' hu => by
                rw [Own.set_self σ r1] at hx hx'
                exact hs.uniq x x' rx rx' (.cells cs e ver fz) hx hx' (hxid.trans hxid'.symm) (by rw [hxid, r2]; exact hg) hu)
            rw [Own.set_self σ r1, r2] at hturn
            refine ⟨.string bb, w.freeze ⟨b, off, none⟩ k, σ, ?_, .str _ _ (by rw [b2]; rfl), hturn.1, hturn.2⟩
            have hd : Builtin.unsafeString_ ts ty #[.pointer (some ⟨b, off, none⟩), .int kk (Int.ofNat k)] = (do
              let n ← asInt (.int kk (Int.ofNat k))
              let some pt := ts[0]? | stuck "unsafe.String: no argument types"
              if n < 0 then runtimePanic (.error "unsafe.String: len out of range")
              if n > IntKind.i64.max then unsupported (.unsafePointer "String: a length above the largest int")
              if n = 0 then pure (.string .empty)
              else if ← variablesAt ⟨b, off, none⟩ (← elemOf pt) n.toNat then do
                let s ← loadBytes ⟨b, off, none⟩ .empty n.toNat
                freeze ⟨b, off, none⟩ n.toNat
                pure (.string s)
              else unsupported (.unsafePointer "String: not so many bytes at ptr")) := by
              unfold Builtin.unsafeString_
              rfl
            have n1 : ¬ (Int.ofNat k < 0) := by simp
            have n2 : ¬ (Int.ofNat k > IntKind.i64.max) := by
              rw [show IntKind.i64.max = 9223372036854775807 from rfl]
              simp only [Int.ofNat_eq_natCast]; omega
            have n3 : ¬ (Int.ofNat k = 0) := by simpa using hkn
            rw [hd, ht]
            simp only [asInt, asIntOf, Sem.run_bind, Sem.run_pure, Result.andThen_ok, if_neg n1, if_neg n2, if_neg n3, run_elemOf' hu, show (Int.ofNat k).toNat = k from rfl, hva, if_true, b1, run_freeze]
          · cases h
        · cases h
      · cases h
    · rw [hk0] at h
      simp only [cond_true] at h
      cases h
      have : k = 0 := by simpa using hk0
      subst this
      refine ⟨.string .empty, w, σ, ?_, .str _ _ rfl, hs, Grw.refl σ w⟩
      have hd : Builtin.unsafeString_ ts ty #[.pointer (some ⟨b, off, none⟩), .int kk (Int.ofNat 0)] = (do
        let some pt := ts[0]? | stuck "unsafe.String: no argument types"
        pure (.string .empty)) := by
        unfold Builtin.unsafeString_
        rfl
      rw [hd, ht]
      rfl
  · cases h

/-! ### Pointers to one place -/
theorem ptrEq_sound {σ : Own} {H : AH} {w : World} (hs : Sim G σ H w) {op : BinOp} {t : TypeId} {x y v : AV} (h : ptrEqA P H op t x y = some v) {x' y' : Value} (hx : VR σ x x') (hy : VR σ y y') (xo yo : Operand) :
    ∃ u, (eqGuard op t xo yo x' y').run P w = .ok () w ∧ (Go.binOp op t x' y').run P w = .ok u w ∧ VR σ v u := by
  unfold ptrEqA at h
  split at h
  · rename_i e i o l j p k hu
    split at h
    · rename_i cs ee ver fz n hg hn
      replace h := bif_some h
      obtain ⟨hc, h⟩ := h
      simp only [Bool.and_eq_true, Nat.beq_eq, Nat.ble_eq, Nat.blt_eq] at hc
      obtain ⟨⟨⟨⟨⟨h1, h2⟩, h3⟩, h4⟩, h5⟩, h6⟩ := hc
      subst h1; subst h2
      cases hx with | ptr _ _ _ b r r1 r2 r3 =>
      cases hy with | ptr _ _ _ b2 rr q1 q2 q3 =>
      have : b = b2 := hs.uniq b b2 r rr (.cells cs ee ver fz) r1 q1 (r2.trans q2.symm) (by rw [r2]; exact hg) ⟨o, h3, by omega, by omega⟩
      subst this
      have heq : (Op.equal t (.pointer (some ⟨b, o, none⟩)) (.pointer (some ⟨b, o, none⟩))).run P w = .ok true w := by
        unfold Op.equal
        rw [show Op.maxDepth = 9999 + 1 from rfl]
        generalize 9999 = D
        simp only [Op.equalIn, Sem.run_bind, run_underlying hu, Result.andThen_ok, run_sizeOf' e w n hn]
        rw [if_pos (by omega)]
        simp [sameAddr]
      have hgd : (eqGuard op t xo yo (.pointer (some ⟨b, o, none⟩)) (.pointer (some ⟨b, o, none⟩))).run P w = .ok () w := eqGuard_ok _ _ _ _ _ _ w (by simp) (by simp)
      split at h
      · cases h
        refine ⟨.bool true, hgd, ?_, .bool true⟩
        rw [show (Go.binOp .eql t (.pointer (some ⟨b, o, none⟩)) (.pointer (some ⟨b, o, none⟩))) = (do pure (.bool (← Op.equal t (.pointer (some ⟨b, o, none⟩)) (.pointer (some ⟨b, o, none⟩))))) from rfl]
        simp [heq]
      · cases h
        refine ⟨.bool false, hgd, ?_, .bool false⟩
        rw [show (Go.binOp .neq t (.pointer (some ⟨b, o, none⟩)) (.pointer (some ⟨b, o, none⟩))) = (do pure (.bool (!(← Op.equal t (.pointer (some ⟨b, o, none⟩)) (.pointer (some ⟨b, o, none⟩)))))) from rfl]
        simp [heq]
      · cases h
    · cases h
  · cases h

/-! ### One step of an iterator -/
theorem EL.filter {σ : Own} (p : Nat → Bool) : ∀ {es : List (AV × AV × Nat)} {l : List MapEntry}, EL σ es l → EL σ (es.filter fun e => p e.2.2) (l.filter fun x => p x.born)
  | [], l, h => by rw [h.unnil]; exact ⟨rfl, fun i e he => by simp at he⟩
  | e :: es, l, h => by
    obtain ⟨x, l', rfl, hx, hl'⟩ := h.uncons
    have ih := EL.filter p hl'
    rw [List.filter_cons, List.filter_cons, hx.born]
    cases p e.2.2
    · exact ih
    · simp only [if_true]
      refine ⟨by simp [ih.1], fun i z hz => ?_⟩
      cases i with
      | zero => simp at hz; subst hz; exact ⟨x, by simp, hx⟩
      | succ i => simp at hz; obtain ⟨u, u1, u2⟩ := ih.2 i z hz; exact ⟨u, by simpa using u1, u2⟩

theorem natMem_contains (n : Nat) : ∀ (l : List Nat), natMem n l = l.contains n
  | [] => rfl
  | m :: l => by
    rw [List.contains_cons, natMem, natMem_contains n l]
    cases hb : Nat.beq m n
    · have : (n == m) = false := by
        have : m ≠ n := by intro e; rw [e] at hb; simp at hb
        simpa using Ne.symm this
      rw [this]; rfl
    · have : m = n := by simpa using hb
      subst this
      simp

theorem EL.any {σ : Own} (p : Nat → Bool) : ∀ {es : List (AV × AV × Nat)} {l : List MapEntry}, EL σ es l → (es.any fun e => p e.2.2) = (l.any fun x => p x.born)
  | [], l, h => by rw [h.unnil]; rfl
  | e :: es, l, h => by
    obtain ⟨x, l', rfl, hx, hl'⟩ := h.uncons
    rw [List.any_cons, List.any_cons, hx.born, EL.any p hl']

theorem next_sound {σ : Own} {H H' : AH} {w : World} (hs : Sim G σ H w) {x v : AV} {isS : Bool} (h : nextA H x isS = some (v, H')) {x' : Value} (hx : VR σ x x') (ty : TypeId) : Eff G P σ w (Instr.next x' isS ty) v H' := by
  unfold nextA at h
  split at h
  · rename_i r0 lim
    cases hx with | ptr _ _ _ b r r1 r2 r3 =>
    split at h
    · rename_i s pos hg
      obtain ⟨k, o, g1, g2, g3⟩ := hs.blk b r r1
      rw [r2, hg] at g1
      cases g1
      obtain ⟨sb, rfl, hsb⟩ := g3
      subst hsb
      split at h
      · rename_i hd
        cases h
        have hge : ¬ pos < sb.size := by
          rw [List.drop_eq_nil_iff, bytes_size] at hd; omega
        refine ⟨.tuple #[.bool false], w, σ, ?_, .tup' (LR.cons (.bool false) (LR.nil σ)), hs, Grw.refl σ w⟩
        simp only [Instr.next, Sem.run_bind, run_getObj_at g2 (by simp), Result.andThen_ok, if_neg hge, Sem.run_pure]
      · rename_i c rest hd
        replace h := bif_some h
        obtain ⟨hc, h⟩ := h
        cases h
        have hc' : c < 128 := by simpa [Nat.blt_eq] using hc
        have h0 : (bytesOf sb)[pos]? = some c := by
          have := congrArg (fun l => l[0]?) hd
          simpa [List.getElem?_drop] using this
        obtain ⟨q1, q2⟩ := bytes_at h0
        have hget : (sb.get! pos).toNat = c := by
          rw [← q1, getElem!_pos sb pos q2]
          simp [ByteArray.get!, q2]
          rfl
        have hdec : Utf8.decode sb pos = (c, 1) := by
          unfold Utf8.decode
          simp only [Nat.add_zero, hget]
          rw [if_pos (by omega)]
        obtain ⟨s1, s2⟩ := hs.turnObj (k := .siter (bytesOf sb) pos) r1 (by rw [r2]; exact hg) (fun _ _ => trivial) (.siter (bytesOf sb) (pos + 1)) (.stringIter sb (pos + 1)) ⟨sb, rfl, rfl⟩
        rw [r2] at s1
        refine ⟨_, _, σ, ?_, .tup' (LR.cons (.bool true) (LR.cons (.int .i64 (Int.ofNat pos)) (LR.cons (.int .i32 (Int.ofNat c)) (LR.nil σ)))), s1, s2⟩
        simp only [Instr.next, Sem.run_bind, run_getObj_at g2 (by simp), Result.andThen_ok, if_pos q2, hdec, run_setObj_at _ g2 (by simp), Sem.run_pure, goInt]
        rfl
    · rename_i hg
      cases h
      obtain ⟨k, o, g1, g2, g3⟩ := hs.blk b r r1
      rw [r2, hg] at g1
      cases g1
      obtain ⟨m', rfl, rfl⟩ := g3
      refine ⟨.tuple #[.bool false], w, σ, ?_, .tup' (LR.cons (.bool false) (LR.nil σ)), hs, Grw.refl σ w⟩
      simp only [Instr.next, Sem.run_bind, run_getObj_at g2 (by simp), Result.andThen_ok, Sem.run_pure]
    · rename_i m since seen last hg
      split at h
      · rename_i es clock hm
        replace h := bif_some h
        obtain ⟨hc, h⟩ := h
        obtain ⟨k, o, g1, g2, g3⟩ := hs.blk b r r1
        rw [r2, hg] at g1
        cases g1
        obtain ⟨m', rfl, bm, rm, rfl, q1, q2⟩ := g3
        obtain ⟨l, l1, l2⟩ := map_at hs.toR hm q1 q2
        have hcond : ((!seen.toArray.isEmpty && !l.isEmpty && l.all fun e => decide (e.born ≥ last)) = true) = False := by
          apply propext
          constructor
          · intro hh
            simp only [Bool.and_eq_true, Bool.not_eq_true', Bool.or_eq_true] at hh hc
            obtain ⟨⟨h1, h2⟩, h3⟩ := hh
            rcases hc with (hc | hc) | hc
            · rw [List.isEmpty_iff] at hc; subst hc; simp at h1
            · rw [List.isEmpty_iff] at hc; subst hc
              have := l2.unnil
              have hz : l = #[] := by simpa using this
              subst hz; simp at h2
            · rw [EL.any (fun n => Nat.blt n last) l2, List.any_eq_true] at hc
              obtain ⟨y, y1, y2⟩ := hc
              have h3' := (Array.all_eq_true'.1 h3) y (by simpa using y1)
              rw [Nat.blt_eq] at y2
              simp at h3'
              omega
          · exact False.elim
        have hel := EL.filter (fun n => !natMem n seen) l2
        have hfl : (l.filter fun e => !seen.toArray.contains e.born).toList = l.toList.filter fun x => !natMem x.born seen := by
          rw [Array.toList_filter]
          congr 1
          funext e
          rw [natMem_contains, List.contains_toArray]
        split at h
        · rename_i hf
          cases h
          rw [hf] at hel
          have hleft : (l.filter fun e => !seen.toArray.contains e.born) = #[] := by
            rw [← Array.toList_inj, hfl, hel.unnil]
          refine ⟨.tuple #[.bool false], w, σ, ?_, .tup' (LR.cons (.bool false) (LR.nil σ)), hs, Grw.refl σ w⟩
          simp only [Instr.next, Sem.run_bind, run_getObj_at g2 (by simp), Result.andThen_ok, run_getObj_at l1 (by simp), hcond, if_false, hleft]
          simp [Question.forced]
        · rename_i e hf
          replace h := bif_some h
          obtain ⟨hb, h⟩ := h
          cases h
          rw [hf] at hel
          obtain ⟨y, l', hy, hyr, hl'⟩ := hel.uncons
          rw [hl'.unnil] at hy
          have hleft : (l.filter fun e => !seen.toArray.contains e.born) = #[y] := by
            rw [← Array.toList_inj, hfl, hy]
          have hborn : y.born < since := by rw [hyr.born]; simpa [Nat.blt_eq] using hb
          obtain ⟨s1, s2⟩ := hs.turnObj (k := .iter (some m) since seen last) r1 (by rw [r2]; exact hg) (fun _ _ => trivial) (.iter (some m) since (seen ++ [e.2.2]) clock) (.mapIter (some bm) since (seen ++ [e.2.2]).toArray clock) ⟨some bm, rfl, bm, rm, rfl, q1, q2⟩
          rw [r2] at s1
          refine ⟨_, _, σ, ?_, .tup' (LR.cons (.bool true) (LR.cons hyr.key (LR.cons hyr.val (LR.nil σ)))), s1, s2⟩
          simp only [Instr.next, Sem.run_bind, run_getObj_at g2 (by simp), Result.andThen_ok, run_getObj_at l1 (by simp), hcond, if_false, hleft]
          have e1 : (#[y].filter fun e => decide (e.born < since)) = #[y] := by simp [hborn]
          have e2 : (#[y].filter fun e => decide (e.born ≥ since)) = #[] := by
            simp; exact hborn
          simp only [e1, e2]
          simp [Question.forced, run_setObj_at _ g2, hyr.born]
        · cases h
      · cases h
    · cases h
  · cases h
end Go.AM
namespace Go.AM
open Go
variable {G : Gh}

def Ext.sem : Ext → Array Value → Sem Value
  | .indexByteString => Extern.BytealgIndexByte.indexByte
  | .cmpstring => Extern.BytealgCompare.compare
  | .noEscape => Extern.AbiNoEscape.same

structure CfgOk (C : Cfg) : Prop where
  names : ∀ (f : FuncId) (fn : Func), C.P.funcs[f]? = some fn → fn.name ≠ "runtime.NumGoroutine"
  exts : ∀ (f : FuncId) (fn : Func) (e : Ext), C.P.funcs[f]? = some fn → fn.body = none → C.ext f = some e → Extern.findNext fn = none ∧ Extern.find fn = some e.sem

/-- A deferred call, and what it stands for. -/
def DR (σ : Own) : ADef → Deferred → Prop
  | .call f args, d => ∃ (cap xs : Array Value), d = { target := .fn (.func f) cap, args := xs } ∧ LR σ args (xs ++ cap).toList
  | .coll id, d => ∃ b r, d = { target := .collected b, args := #[] } ∧ σ b = some r ∧ r.id = id

/-- What an operation comes to. -/
def NR (G : Gh) (P : Program) (σ : Own) (w : World) (s : Sem Next) : OR → Prop
  | .val v H' => ∃ y w' σ', (s.run P w = .ok (.value y) w' ∨ (s.run P w = .ok .skip w' ∧ y = undef)) ∧ VR σ' v y ∧ Sim G σ' H' w' ∧ Grw σ σ' w w'
  | .call f args => ∃ ys, s.run P w = .ok (.enter f ys) w ∧ LR σ args ys.toList
  | .round id args => ∃ b r ys, σ b = some r ∧ r.id = id ∧ LR σ args ys.toList ∧ s.run P w = (Instr.yield b ys).run P w
  | .pan v => ∃ y, s.run P w = .halt (.panic y) w ∧ VR σ v y
  | .dfr d => ∃ d', s.run P w = .ok (.defer d') w ∧ DR σ d d'
  | .rcv => s.run P w = .ok .recover w
  | .err => True

theorem NR.of_eff {P : Program} {σ : Own} {w : World} {s : Sem Value} {r : Option (AV × AH)} (h : ∀ v H', r = some (v, H') → Eff G P σ w s v H') :
    NR G P σ w (do pure (.value (← s)) : Sem Next) (retP r) := by
  cases r with
  | none => trivial
  | some p =>
    obtain ⟨v, H'⟩ := p
    obtain ⟨y, w', σ', h1, h2, h3, h4⟩ := h v H' rfl
    exact ⟨y, w', σ', .inl (by simp [h1]), h2, h3, h4⟩
theorem NR.of_done {P : Program} {σ : Own} {w : World} {s : Sem Unit} {r : Option AH} (h : ∀ H', r = some H' → Done G P σ w s () H') :
    NR G P σ w (do s; pure .skip : Sem Next) (retU r) := by
  cases r with
  | none => trivial
  | some H' =>
    obtain ⟨w', h1, h2, h3⟩ := h H' rfl
    exact ⟨undef, w', σ, .inr ⟨by simp [h1], rfl⟩, .tup' (LR.nil σ), h2, h3⟩
theorem NR.of_yes {P : Program} {σ : Own} {H : AH} {w : World} (hs : Sim G σ H w) {s : Sem Value} {r : Option AV} (h : ∀ v, r = some v → Yes P σ w s v) :
    NR G P σ w (do pure (.value (← s)) : Sem Next) (retE H r) := by
  cases r with
  | none => trivial
  | some v =>
    obtain ⟨y, h1, h2⟩ := h v rfl
    exact ⟨y, w, σ, .inl (by simp [h1]), h2, hs, Grw.refl σ w⟩

theorem LR.vals {σ : Own} {ρA : Operand → AV} {ρ : Operand → Value} (hρ : ∀ x, VR σ (ρA x) (ρ x)) (l : Array Operand) : LR σ (l.toList.map ρA) (l.map ρ).toList := by
  rw [Array.toList_map]; exact LR.map ρA ρ hρ l.toList

theorem ext_sound {σ : Own} {w : World} {P : Program} {e : Ext} {args : List AV} {v : AV} (h : extA e args = some v) {ys : Array Value} (hl : LR σ args ys.toList) : Yes P σ w (e.sem ys) v := by
  unfold extA at h
  split at h
  · obtain ⟨hb, h⟩ := bif_some h
    cases h
    obtain ⟨y, l1, e1, h1, hl⟩ := hl.uncons
    obtain ⟨z, l2, rfl, h2, hl⟩ := hl.uncons
    rw [hl.unnil] at e1
    have : ys = #[y, z] := by rw [← Array.toList_inj, e1]
    subst this
    exact indexByte_sound h1 h2 (by simpa [Nat.blt_eq] using hb)
  · cases h
    obtain ⟨y, l1, e1, h1, hl⟩ := hl.uncons
    obtain ⟨z, l2, rfl, h2, hl⟩ := hl.uncons
    rw [hl.unnil] at e1
    have : ys = #[y, z] := by rw [← Array.toList_inj, e1]
    subst this
    exact compare_sound h1 h2
  · cases h
    obtain ⟨y, l1, e1, h1, hl⟩ := hl.uncons
    rw [hl.unnil] at e1
    have : ys = #[y] := by rw [← Array.toList_inj, e1]
    subst this
    exact ⟨y, rfl, h1⟩
  · cases h

theorem callTo_sound {C : Cfg} (hC : CfgOk C) {σ : Own} {H : AH} {w : World} (hs : Sim G σ H w) {f : FuncId} {args : List AV} {ys : Array Value} (hl : LR σ args ys.toList) :
    NR G C.P σ w (callFunc f ys) (callTo C H f args) := by
  unfold callTo
  cases hf : C.P.funcs[f]? with
  | none => trivial
  | some fn =>
    simp only
    cases hb : fn.body with
    | some body =>
      refine ⟨ys, ?_, hl⟩
      simp [callFunc, hf, hC.names f fn hf, hb]
    | none =>
      simp only
      cases he : C.ext f with
      | none => trivial
      | some e =>
        obtain ⟨h1, h2⟩ := hC.exts f fn e hf hb he
        simp only
        cases hx : extA e args with
        | none => trivial
        | some v =>
          obtain ⟨y, k1, k2⟩ := ext_sound (P := C.P) (w := w) hx hl
          refine ⟨y, w, σ, .inl ?_, k2, hs, Grw.refl σ w⟩
          simp [callFunc, hf, hC.names f fn hf, hb, h1, h2, k1]

theorem method_sound {P : Program} {t : TypeId} {name : String} {f : FuncId} (h : methodA P t name = some f) (v : Value) (n : Nat) (w : World) : (method (n + 1) t v name).run P w = .ok (f, v) w := by
  unfold methodA at h
  split at h
  · rename_i i d hi hu
    split at h
    · rename_i m hm
      obtain ⟨hp, h⟩ := bif_some h
      split at h
      · rename_i g hg
        cases h
        have hpe : m.path = #[] := by simpa using hp
        simp [method, typeInfo, hi, hm, hpe, follow, hg, receiverAt, run_underlying hu, Place.get]
      · cases h
    · cases h
  · cases h

theorem arr1 {α β : Type} {f : α → β} {l : Array α} {x : β} (h : l.toList.map f = [x]) : ∃ a, l = #[a] ∧ x = f a := by
  obtain ⟨l⟩ := l
  match l, h with
  | [a], h => exact ⟨a, rfl, by simpa using h.symm⟩
theorem arr2 {α β : Type} {f : α → β} {l : Array α} {x y : β} (h : l.toList.map f = [x, y]) : ∃ a b, l = #[a, b] ∧ x = f a ∧ y = f b := by
  obtain ⟨l⟩ := l
  match l, h with
  | [a, b], h =>
    simp at h
    exact ⟨a, b, rfl, h.1.symm, h.2.symm⟩

theorem builtin_sound {C : Cfg} {σ : Own} {H : AH} {w : World} (hs : Sim G σ H w) {ρA : Operand → AV} {ρ : Operand → Value} (hρ : ∀ x, VR σ (ρA x) (ρ x)) (b : Builtin) (ts : Array TypeId) (ty : TypeId) (cn : Array Bool) (args : Array Operand) :
    NR G C.P σ w (builtin b ts ty cn (args.map ρ)) (builtinA C H b ts (args.toList.map ρA)) := by
  unfold builtinA
  split
  · rename_i s x hb
    obtain ⟨a, c, rfl, rfl, rfl⟩ := arr2 hb
    split
    · rename_i t u ht hu
      split
      · trivial
      · rename_i du hni hdu
        rw [List.map_toArray]
        exact NR.of_eff fun v H' h => append_sound hs h ht hu hdu hni (hρ a) (hρ c)
      · trivial
    · trivial
  · rename_i s x hb
    obtain ⟨a, c, rfl, rfl, rfl⟩ := arr2 hb
    split
    · rename_i t ht
      rw [List.map_toArray]
      exact NR.of_eff fun v H' h => copy_sound hs h ht (hρ a) (hρ c)
    · trivial
  · rename_i x l hb
    refine NR.of_yes hs fun v h => ?_
    obtain ⟨y, ys', e1, hx, hl⟩ := (hb ▸ LR.vals hρ args : LR σ (x :: l) (args.map ρ).toList).uncons
    obtain ⟨u, k1, k2⟩ := minMax_sound (P := C.P) (w := w) false l x v ys' y h hx hl
    refine ⟨u, ?_, k2⟩
    unfold Builtin.min_
    rw [e1]
    simpa using k1
  · rename_i x l hb
    refine NR.of_yes hs fun v h => ?_
    obtain ⟨y, ys', e1, hx, hl⟩ := (hb ▸ LR.vals hρ args : LR σ (x :: l) (args.map ρ).toList).uncons
    obtain ⟨u, k1, k2⟩ := minMax_sound (P := C.P) (w := w) true l x v ys' y h hx hl
    refine ⟨u, ?_, k2⟩
    unfold Builtin.max_
    rw [e1]
    simpa using k1
  · exact rfl
  · rename_i x hb
    obtain ⟨a, rfl, rfl⟩ := arr1 hb
    rw [List.map_toArray]
    exact NR.of_yes hs fun v h => sliceData_sound h (hρ a) ts ty
  · rename_i x n hb
    obtain ⟨a, c, rfl, rfl, rfl⟩ := arr2 hb
    split
    · rename_i t ht
      rw [List.map_toArray]
      exact NR.of_eff fun v H' h => unsafeString_sound hs h ht (hρ a) (hρ c)
    · trivial
  · trivial

theorem call_sound {C : Cfg} (hC : CfgOk C) {σ : Own} {H : AH} {w : World} (hs : Sim G σ H w) {ρA : Operand → AV} {ρ : Operand → Value} (hρ : ∀ x, VR σ (ρA x) (ρ x)) (c : Call) (ty : TypeId) :
    NR G C.P σ w (do let d ← resolve ρ c ty; invoke d.target d.args) (callA C ρA H c) := by
  have trans : ∀ (s s' : Sem Next) (r : OR), s.run C.P w = s'.run C.P w → NR G C.P σ w s' r → NR G C.P σ w s r := by
    intro s s' r h
    cases r <;> simp only [NR, h] <;> exact id
  obtain ⟨callee, args, ts⟩ := c
  unfold callA
  cases callee with
  | builtin b =>
    simp only
    refine trans _ (builtin b ts ty (args.map fun | .const _ => true | _ => false) (args.map ρ)) _ ?_ (builtin_sound hs hρ b ts ty _ args)
    simp only [resolve, Sem.run_bind, Sem.run_pure, Result.andThen_ok, invoke]
    rfl
  | value f =>
    simp only
    split
    · rename_i g first cap hf
      have hv := hρ f
      rw [hf] at hv
      obtain ⟨c1, c2, e1, h1, h2⟩ := hv.fn_inv
      refine trans _ (callFunc g ((c1 ++ args.map ρ) ++ c2)) _ ?_ (callTo_sound hC hs ?_)
      · simp [resolve, e1, Deferred.ofValue, invoke]
      · simp only [Array.toList_append]
        exact (h1.append (LR.vals hρ args)).append h2
    · rename_i id hf
      have hv := hρ f
      rw [hf] at hv
      generalize hy : ρ f = y at hv
      cases hv with | yld _ b r r1 r2 =>
      refine ⟨b, r, args.map ρ, r1, r2, LR.vals hρ args, ?_⟩
      simp [resolve, hy, Deferred.ofValue, invoke]
    · trivial
  | invoke r name =>
    simp only
    split
    · rename_i t v hf
      split
      · rename_i f hm
        have hv := hρ r
        rw [hf] at hv
        generalize hy : ρ r = y at hv
        cases hv with | ifc _ _ u hu =>
        refine trans _ (callFunc f (#[u] ++ args.map ρ)) _ ?_ (callTo_sound hC hs ?_)
        · have e0 : (#[Value.iface t u] ++ args.map ρ)[0]? = some (.iface t u) := by rw [Array.getElem?_append_left (by simp)]; rfl
          have e1 : (#[Value.iface t u] ++ args.map ρ).extract 1 (#[Value.iface t u] ++ args.map ρ).size = args.map ρ := by
            apply Array.ext'
            simp
            exact List.take_of_length_le (by simp)
          simp only [resolve, hy, Sem.run_bind, Sem.run_pure, Result.andThen_ok, invoke, e0, e1, callMethod, run_program]
          rw [show C.P.types.size + Made.depth = (C.P.types.size + (Made.depth - 1)) + 1 from rfl, method_sound hm u _ w]
          rfl
        · simpa using LR.cons hu (LR.vals hρ args)
      · trivial
    · trivial

theorem exec_sound {C : Cfg} (hC : CfgOk C) {σ : Own} {H : AH} {w : World} (hs : Sim G σ H w) {ρA : Operand → AV} {ρ : Operand → Value} (hρ : ∀ x, VR σ (ρA x) (ρ x)) (o : Oper) :
    NR G C.P σ w (execOp ρ o) (opA C ρA H o.op) := by
  unfold opA
  cases hcl : clsOf o.op with
  | pure =>
    simp only
    cases hp : pureA C ρA o.op with
    | some v =>
      obtain ⟨y, h1, h2⟩ := pure_sound hρ hp w
      exact ⟨y, w, σ, .inl h1, h2, hs, Grw.refl σ w⟩
    | none =>
      simp only
      split
      · rename_i op t x y tt hop
        cases hq : ptrEqA C.P H op t (ρA x) (ρA y) with
        | none => trivial
        | some v =>
          obtain ⟨u, h1, h2, h3⟩ := ptrEq_sound hs hq (hρ x) (hρ y) x y
          refine ⟨u, w, σ, .inl ?_, h3, hs, Grw.refl σ w⟩
          unfold execOp
          simp [hop, h1, h2]
      · trivial
  | read =>
    simp only
    cases hp : readA C ρA H o.op with
    | none => trivial
    | some v =>
      obtain ⟨y, h1, h2⟩ := read_sound hs.toR hρ hcl hp
      exact ⟨y, w, σ, .inl h1, h2, hs, Grw.refl σ w⟩
  | alloc =>
    simp only
    cases hp : allocA C ρA o.op with
    | none => trivial
    | some nb =>
      obtain ⟨y, ob, m, csz, h1, h2⟩ := alloc_sound hρ hp w
      have hnone : σ w.heap.size = none := by
        cases e : σ w.heap.size with
        | none => rfl
        | some r => exact absurd (hs.lt e) (Nat.lt_irrefl _)
      obtain ⟨k1, k2⟩ := h2 H.next hnone
      obtain ⟨s1, s2⟩ := hs.new nb.blk ob m csz k1
      exact ⟨y, _, _, .inl h1, k2, s1, s2⟩
  | eff =>
    simp only
    unfold effA
    split
    all_goals (rename_i hop)
    all_goals (try (unfold execOp; simp only [hop]))
    · exact NR.of_done fun H' h => store_sound hs h (hρ _) (hρ _)
    · exact NR.of_done fun H' h => mapUpdate_sound hs h (hρ _) (hρ _) (hρ _)
    · exact NR.of_done fun H' h => mapUpdate_sound hs h (hρ _) (hρ _) (hρ _)
    · exact NR.of_eff fun v H' h => (let ⟨y, h1, w', h2, h3, h4⟩ := mapEntry_sound hs h (hρ _) (hρ _); ⟨y, w', σ, h2, h1, h3, h4⟩)
    · exact NR.of_done fun H' h => entryStore_sound hs h (hρ _) (hρ _) (hρ _) _
    · exact NR.of_eff fun v H' h => range_sound hs h (hρ _)
    · exact NR.of_eff fun v H' h => next_sound hs h (hρ _) _
    · exact call_sound hC hs hρ _ _
    · rename_i c
      unfold deferA
      split
      · rename_i f hf
        split
        · rename_i g first cap he
          have hv := hρ f
          rw [he] at hv
          obtain ⟨c1, c2, e1, h1, h2⟩ := hv.fn_inv
          refine ⟨_, ?_, c2, c1 ++ c.args.map ρ, rfl, ?_⟩
          · simp [resolve, hf, e1, Deferred.ofValue]
          · simp only [Array.toList_append]
            exact (h1.append (LR.vals hρ c.args)).append h2
        · trivial
      · trivial
    · rename_i x
      unfold panicA
      split
      · rename_i t v he
        have hv := hρ x
        rw [he] at hv
        generalize hy : ρ x = y at hv
        cases hv with | ifc _ _ u hu =>
        exact ⟨.iface t u, by simp [Instr.panic, goPanic, Sem.run], .ifc t v u hu⟩
      · trivial
    · trivial
end Go.AM
namespace Go.AM
open Go

def FrX (b : Frame) (t : Array Value) (d : List Deferred) (todo : List Item) : Frame := { b with tmps := t, defers := d, todo := todo, mode := .run }
def evX (t : Array Value) (x : Operand) : Value := Act.eval ⟨t, []⟩ x
theorem FrX_eval (b : Frame) (t : Array Value) (d : List Deferred) (todo : List Item) : (FrX b t d todo).eval = evX t := funext fun x => by cases x <;> rfl
def putX (t : Array Value) (dst : Option Tmp) (v : Value) : Array Value := match dst with | some d => t.setIfInBounds d v | none => t

section moves
variable {P : Program} {b : Frame} {t : Array Value} {d : List Deferred} {k : List Item} {cs : List Frame} {w : World}
theorem stepX_skip : step P (lone (FrX b t d (.code .skip :: k)) cs w) = .next (lone (FrX b t d k) cs w) := step_lone_go (by simp [stepG, stepG.exec, FrX])
theorem stepX_label {l : Nat} : step P (lone (FrX b t d (.code (.label l) :: k)) cs w) = .next (lone (FrX b t d k) cs w) := step_lone_go (by simp [stepG, stepG.exec, FrX])
theorem stepX_inBlock {id : Nat} : step P (lone (FrX b t d (.inBlock id :: k)) cs w) = .next (lone (FrX b t d k) cs w) := step_lone_go (by simp [stepG, stepG.exec, FrX])
theorem stepX_inScope {c : Code} : step P (lone (FrX b t d (.inScope c :: k)) cs w) = .next (lone (FrX b t d k) cs w) := step_lone_go (by simp [stepG, stepG.exec, FrX])
theorem stepX_scope {c : Code} : step P (lone (FrX b t d (.code (.scope c) :: k)) cs w) = .next (lone (FrX b t d (.code c :: .inScope c :: k)) cs w) := step_lone_go (by simp [stepG, stepG.exec, FrX])
theorem stepX_seq {x y : Code} : step P (lone (FrX b t d (.code (.seq x y) :: k)) cs w) = .next (lone (FrX b t d (.code x :: .code y :: k)) cs w) := step_lone_go (by simp [stepG, stepG.exec, FrX])
theorem stepX_cond {c : Operand} {x y : Code} {u : Bool} (h : evX t c = .bool u) : step P (lone (FrX b t d (.code (.cond c x y) :: k)) cs w) = .next (lone (FrX b t d (.code (if u then x else y) :: k)) cs w) :=
  step_lone_go (by
    have := congrFun (FrX_eval b t d (.code (.cond c x y) :: k)) c
    simp only [FrX] at this
    simp [stepG, stepG.exec, FrX, this, h])
theorem stepX_block {id : Nat} {c : Code} : step P (lone (FrX b t d (.code (.block id c) :: k)) cs w) = .next (lone (FrX b t d (.code c :: .inBlock id :: k)) cs w) := step_lone_go (by simp [stepG, stepG.exec, FrX])
theorem stepX_loop {c : Code} : step P (lone (FrX b t d (.code (.loop c) :: k)) cs w) = .next (lone (FrX b t d (.code c :: .inLoop c :: k)) cs w) := step_lone_go (by simp [stepG, stepG.exec, FrX])
theorem stepX_inLoop {c : Code} : step P (lone (FrX b t d (.inLoop c :: k)) cs w) = .next (lone (FrX b t d (.code c :: .inLoop c :: k)) cs w) := step_lone_go (by simp [stepG, stepG.exec, FrX])
theorem stepX_exit {id : Nat} {k' : List Item} (h : exitTo id k = some k') : step P (lone (FrX b t d (.code (.exit id) :: k)) cs w) = .next (lone (FrX b t d k') cs w) := step_lone_go (by simp [stepG, stepG.exec, FrX, h])
theorem stepX_ret (hr : b.roundOf = none) : step P (lone (FrX b t d (.code .ret :: k)) cs w) = .next (lone { FrX b t d (.code .ret :: k) with mode := .returning } cs w) :=
  step_lone_go (by simp [stepG, stepG.exec, FrX, hr])
theorem stepX_end (hr : b.roundOf = none) : step P (lone (FrX b t d []) cs w) = .next (lone { FrX b t d [] with mode := .returning } cs w) :=
  step_lone_go (by simp [stepG, stepG.exec, FrX, hr])
theorem stepX_region {id : Nat} {ops : Array Oper} : step P (lone (FrX b t d (.code (.region id ops false) :: k)) cs w) = .next (lone (FrX b t d (.inRegion ops (List.range ops.size) :: k)) cs w) :=
  step_lone_go (by simp [stepG, stepG.exec, FrX])
theorem stepX_draw {id : Nat} {ops : Array Oper} : step P (lone (FrX b t d (.code (.region id ops true) :: k)) cs w) =
      .next (lone (FrX b t d (.inRegion ops (Region.schedule (P.follows .mixedOrders) ops (w.tape w.drawn (.order b.fn id))) :: k)) cs w.drew) :=
  step_lone_go (by simp [stepG, stepG.exec, FrX, choose, Sem.run, Question.forced, Question.cut])
theorem stepX_region_end {ops : Array Oper} : step P (lone (FrX b t d (.inRegion ops [] :: k)) cs w) = .next (lone (FrX b t d k) cs w) :=
  step_lone_go (by simp [stepG, stepG.exec, FrX])
theorem FrX_finish (ops : Array Oper) (i : Nat) (rest : List Nat) (v : Value) :
    (FrX b t d (.inRegion ops (i :: rest) :: k)).finish v = FrX b (putX t ((ops[i]?).bind (·.dst)) v) d (.inRegion ops rest :: k) := by
  cases h : (ops[i]?).bind (·.dst) <;> simp [Frame.finish, FrX, putX, h]
theorem stepX_op_skip {ops : Array Oper} {i : Nat} {rest : List Nat} (h : ((ops[i]?).map (Region.wanted · (yielded ops t))).getD false = false) :
    step P (lone (FrX b t d (.inRegion ops (i :: rest) :: k)) cs w) =
      .next (lone (FrX b (putX t ((ops[i]?).bind (·.dst)) undef) d (.inRegion ops rest :: k)) cs w) := by
  rw [← FrX_finish]
  exact step_lone_go (by
    have h' := h
    simp only [FrX] at *
    simp [stepG, stepG.exec, h'])
theorem stepGX_op {ops : Array Oper} {i : Nat} {rest : List Nat} {o : Oper} (ho : ops[i]? = some o) (hw : Region.wanted o (yielded ops t) = true) (hr : b.roundOf = none ∨ ∀ c, o.op ≠ .defer c) :
    stepG P true { frame := FrX b t d (.inRegion ops (i :: rest) :: k), callers := cs, status := .running, dying := none } w =
      stepG.apply P true (FrX b t d (.inRegion ops (i :: rest) :: k)) cs none (execOp (evX t) o) w := by
  have he := FrX_eval b t d (.inRegion ops (i :: rest) :: k)
  have h1 : stepG P true { frame := FrX b t d (.inRegion ops (i :: rest) :: k), callers := cs, status := .running, dying := none } w =
      stepG.oper P true (FrX b t d (.inRegion ops (i :: rest) :: k)) cs none w := by
    simp [stepG, stepG.exec, FrX, ho, hw]
  rw [h1]
  unfold stepG.oper
  have h2 : (FrX b t d (.inRegion ops (i :: rest) :: k)).oper? = some o := by simp [Frame.oper?, FrX, ho]
  rw [h2]
  simp only
  split
  · rename_i l c hl hop
    rcases hr with hr | hr
    · have : (FrX b t d (.inRegion ops (i :: rest) :: k)).roundOf = b.roundOf := rfl
      rw [this, hr] at hl; cases hl
    · exact absurd hop (hr c)
  · rw [he]
end moves

section apply
variable {P : Program} {b : Frame} {t : Array Value} {d : List Deferred} {k : List Item} {cs : List Frame} {w : World}
theorem stepX_value {ops : Array Oper} {i : Nat} {rest : List Nat} {o : Oper} (ho : ops[i]? = some o) (hw : Region.wanted o (yielded ops t) = true) (hr : b.roundOf = none ∨ ∀ c, o.op ≠ .defer c) {v : Value} {w' : World}
    (h : (execOp (evX t) o).run P w = .ok (.value v) w') : step P (lone (FrX b t d (.inRegion ops (i :: rest) :: k)) cs w) = .next (lone (FrX b (putX t o.dst v) d (.inRegion ops rest :: k)) cs w') := by
  have hf := FrX_finish (b := b) (t := t) (d := d) (k := k) ops i rest v
  rw [ho] at hf
  refine step_lone_go ?_
  rw [stepGX_op ho hw hr]
  simp only [Option.bind_some] at hf
  rw [← hf]; simp [stepG.apply, h]
theorem stepX_skipped {ops : Array Oper} {i : Nat} {rest : List Nat} {o : Oper} (ho : ops[i]? = some o) (hw : Region.wanted o (yielded ops t) = true) (hr : b.roundOf = none ∨ ∀ c, o.op ≠ .defer c) {w' : World}
    (h : (execOp (evX t) o).run P w = .ok .skip w') : step P (lone (FrX b t d (.inRegion ops (i :: rest) :: k)) cs w) = .next (lone (FrX b (putX t o.dst undef) d (.inRegion ops rest :: k)) cs w') := by
  have hf := FrX_finish (b := b) (t := t) (d := d) (k := k) ops i rest undef
  rw [ho] at hf
  refine step_lone_go ?_
  rw [stepGX_op ho hw hr]
  simp only [Option.bind_some] at hf
  rw [← hf]; simp [stepG.apply, h]
theorem stepX_deferred {ops : Array Oper} {i : Nat} {rest : List Nat} {o : Oper} (ho : ops[i]? = some o) (hw : Region.wanted o (yielded ops t) = true) (hr : b.roundOf = none ∨ ∀ c, o.op ≠ .defer c) {x : Deferred} {w' : World}
    (h : (execOp (evX t) o).run P w = .ok (.defer x) w') : step P (lone (FrX b t d (.inRegion ops (i :: rest) :: k)) cs w) = .next (lone (FrX b (putX t o.dst undef) (x :: d) (.inRegion ops rest :: k)) cs w') := by
  have hf := FrX_finish (b := b) (t := t) (d := x :: d) (k := k) ops i rest undef
  rw [ho] at hf
  refine step_lone_go ?_
  rw [stepGX_op ho hw hr]
  simp only [Option.bind_some] at hf
  rw [← hf]
  simp only [stepG.apply, Sem.runT_eq, h, GStep.bare_after]
  rfl
theorem stepX_enter {ops : Array Oper} {i : Nat} {rest : List Nat} {o : Oper} (ho : ops[i]? = some o) (hw : Region.wanted o (yielded ops t) = true) (hr : b.roundOf = none ∨ ∀ c, o.op ≠ .defer c) {f : FuncId} {args : Array Value} {w' : World}
    (h : (execOp (evX t) o).run P w = .ok (.enter f args) w') : step P (lone (FrX b t d (.inRegion ops (i :: rest) :: k)) cs w) = .next (lone (Frame.enter P f args .normal) (FrX b t d (.inRegion ops (i :: rest) :: k) :: cs) w') := by
  refine step_lone_go ?_
  rw [stepGX_op ho hw hr]
  simp [stepG.apply, h, FrX]
theorem stepX_round {ops : Array Oper} {i : Nat} {rest : List Nat} {o : Oper} (ho : ops[i]? = some o) (hw : Region.wanted o (yielded ops t) = true) (hr : b.roundOf = none ∨ ∀ c, o.op ≠ .defer c) {l : Nat} {f : FuncId} {tm : Array Value} {asg body : Code} {w' : World}
    (h : (execOp (evX t) o).run P w = .ok (.round l f tm asg body) w') : step P (lone (FrX b t d (.inRegion ops (i :: rest) :: k)) cs w) = .next (lone (Frame.round l f tm asg body .normal) (FrX b t d (.inRegion ops (i :: rest) :: k) :: cs) w') := by
  refine step_lone_go ?_
  rw [stepGX_op ho hw hr]
  simp [stepG.apply, h, FrX]
theorem stepX_panic {ops : Array Oper} {i : Nat} {rest : List Nat} {o : Oper} (ho : ops[i]? = some o) (hw : Region.wanted o (yielded ops t) = true) (hr : b.roundOf = none ∨ ∀ c, o.op ≠ .defer c) {v : Value} {w' : World}
    (h : (execOp (evX t) o).run P w = .halt (.panic v) w') : step P (lone (FrX b t d (.inRegion ops (i :: rest) :: k)) cs w) =
      .next (lone { FrX b t d (.inRegion ops (i :: rest) :: k) with mode := .panicking [{ v, recovered := false }] } cs w') := by
  refine step_lone_go ?_
  rw [stepGX_op ho hw hr]
  simp [stepG.apply, h, FrX, Frame.raise]
end apply
end Go.AM
