/-
  Operations that are pure, that make blocks, that read, and the writing of maps do what the abstract ones do. By an AI agent.
-/
import Derived.Test.YtlbpfpffifppiaaGreatDoorAm2
namespace Go.AM
open Go
variable {P : Program}

def OVR (σ : Own) : Option AV → Option Value → Prop
  | none, none => True
  | some a, some b => VR σ a b
  | _, _ => False

theorem asNat_inv {v : AV} {n : Nat} (h : asNat v = some n) {σ : Own} {v' : Value} (hv : VR σ v v') : ∃ k, v' = .int k (.ofNat n) := by
  unfold asNat at h
  split at h
  · cases h; cases hv; exact ⟨_, rfl⟩
  · cases h

theorem sliceBound_sound {v : AV} {n : Nat} (h : asNat v = some n) {σ : Own} {v' : Value} (hv : VR σ v v') (y : Nat) (c : BoundsCode) (hy : n ≤ y) (w : World) :
    (Instr.sliceBound v' y c).run P w = .ok n w := by
  obtain ⟨k, rfl⟩ := asNat_inv h hv
  simp only [Instr.sliceBound, asIntOf, Sem.run_bind, Sem.run_pure, Result.andThen_ok]
  rw [if_pos (by simp; omega)]
  rfl

theorem bytes_extract (b : ByteArray) (l h : Nat) : bytesOf (b.extract l h) = ((bytesOf b).drop l).take (h - l) := by
  unfold bytesOf
  rw [ByteArray.data_extract, Array.toList_extract, List.extract_eq_take_drop, List.map_take, List.map_drop]

theorem optNat_some {o : Option AV} {m : Option Nat} (h : optNat o = some m) : (o = none ∧ m = none) ∨ ∃ v n, o = some v ∧ asNat v = some n ∧ m = some n := by
  cases o with
  | none => simp [optNat] at h; exact .inl ⟨rfl, h.symm⟩
  | some v =>
    simp only [optNat] at h
    split at h
    · rename_i n hn; cases h; exact .inr ⟨v, n, rfl, hn, rfl⟩
    · cases h

theorem bounds_sound {σ : Own} (w : World) (isSlice : Bool) (len cap : Nat) {lo hi mx : Option AV} {lo' hi' mx' : Option Value} (hl : OVR σ lo lo') (hh : OVR σ hi hi') (hm : OVR σ mx mx')
    {l h m : Option Nat} (el : optNat lo = some l) (eh : optNat hi = some h) (em : optNat mx = some m)
    (c1 : l.getD 0 ≤ h.getD len) (c2 : h.getD len ≤ m.getD cap) (c3 : m.getD cap ≤ cap) (c4 : m.isSome → h.isSome) :
    (Instr.sliceBounds isSlice len cap lo' hi' mx').run P w = .ok (l.getD 0, h.getD len, m.getD cap) w := by
  rcases optNat_some el with ⟨rfl, rfl⟩ | ⟨vl, nl, rfl, al, rfl⟩ <;> rcases optNat_some eh with ⟨rfl, rfl⟩ | ⟨vh, nh, rfl, ah, rfl⟩ <;> rcases optNat_some em with ⟨rfl, rfl⟩ | ⟨vm, nm, rfl, am, rfl⟩ <;>
    cases lo' <;> cases hi' <;> cases mx' <;> simp only [OVR] at hl hh hm
  · rfl
  · exact absurd (c4 rfl) (by simp)
  · have c2' : nh ≤ cap := c2
    simp only [Instr.sliceBounds, Sem.run_bind, Sem.run_pure, Result.andThen_ok]
    rw [sliceBound_sound ah hh _ _ c2']; rfl
  · have c2' : nh ≤ nm := c2
    have c3' : nm ≤ cap := c3
    simp only [Instr.sliceBounds, Sem.run_bind, Sem.run_pure]
    rw [sliceBound_sound am hm _ _ c3']; simp only [Result.andThen_ok]; rw [sliceBound_sound ah hh _ _ c2']; rfl
  · have c1' : nl ≤ len := c1
    simp only [Instr.sliceBounds, Sem.run_bind, Sem.run_pure, Result.andThen_ok]
    rw [sliceBound_sound al hl _ _ c1']; rfl
  · exact absurd (c4 rfl) (by simp)
  · have c1' : nl ≤ nh := c1
    have c2' : nh ≤ cap := c2
    simp only [Instr.sliceBounds, Sem.run_bind, Sem.run_pure, Result.andThen_ok]
    rw [sliceBound_sound ah hh _ _ c2']; simp only [Result.andThen_ok]; rw [sliceBound_sound al hl _ _ c1']; rfl
  · have c1' : nl ≤ nh := c1
    have c2' : nh ≤ nm := c2
    have c3' : nm ≤ cap := c3
    simp only [Instr.sliceBounds, Sem.run_bind, Sem.run_pure]
    rw [sliceBound_sound am hm _ _ c3']; simp only [Result.andThen_ok]; rw [sliceBound_sound ah hh _ _ c2']; simp only [Result.andThen_ok]; rw [sliceBound_sound al hl _ _ c1']; rfl

theorem size_is {t : TypeId} {esz : Nat} (h : (match sizeT P t with | some n => Nat.beq n esz | none => false) = true) : sizeT P t = some esz := by
  cases hs : sizeT P t with
  | none => rw [hs] at h; cases h
  | some n => rw [hs] at h; rw [show n = esz by simpa using h]

/-- The run of a slice of a slice. -/
theorem run_slice {t e : TypeId} {n : Nat} {w : World} {a : Addr} {len cap' l h m : Nat} {lo' hi' mx' : Option Value} (hu : P.underlying t = some (.slice e)) (hn : sizeT P e = some n)
    (hb : (Instr.sliceBounds true len cap' lo' hi' mx').run P w = .ok (l, h, m) w) :
    (Instr.sliceAt t (.slice (some a) len cap') lo' hi' mx').run P w = .ok (.slice (some (if m = l then a else a.add (l * n))) (h - l) (m - l)) w := by
  simp only [Instr.sliceAt, Sem.run_bind, run_underlying hu, Result.andThen_ok, Instr.slice, hb, run_sizeOf' e w n hn, Sem.run_pure]
  by_cases e1 : m = l <;> simp [e1]

theorem slice_sound {σ : Own} {w : World} {t : TypeId} {x v : AV} {lo hi mx : Option AV} (h : sliceA P t x lo hi mx = some v) {x' : Value} {lo' hi' mx' : Option Value} (hx : VR σ x x')
    (hl : OVR σ lo lo') (hh : OVR σ hi hi') (hm : OVR σ mx mx') : Yes P σ w (Instr.sliceAt t x' lo' hi' mx') v := by
  unfold sliceA at h
  split at h
  · rename_i s l h0 hu el eh em
    obtain ⟨hc, h⟩ := bif_some h
    cases h
    simp only [Bool.and_eq_true, Nat.ble_eq] at hc
    cases hx with | str _ b hb =>
    subst hb
    have hmx : mx = none := by rcases optNat_some em with ⟨h, _⟩ | ⟨_, _, _, _, e⟩ <;> first | exact h | cases e
    subst hmx
    cases mx' with
    | some _ => cases hm
    | none =>
      rw [bytes_size] at hc ⊢
      have := bounds_sound (P := P) w false b.size b.size hl hh hm el eh em hc.1 (by simpa using hc.2) (by simp) (by simp)
      refine ⟨.string (b.extract (l.getD 0) (h0.getD b.size)), ?_, .str _ _ (bytes_extract _ _ _)⟩
      simp only [Instr.sliceAt, Sem.run_bind, run_underlying hu, Result.andThen_ok, Instr.slice, Option.isSome_none, Bool.false_eq_true, if_false, this, Sem.run_pure]
  · rename_i e id off len cap esz l h0 hu el eh em
    obtain ⟨hc, h9⟩ := bif_some h
    clear h
    have h := h9
    clear h9
    simp only [Bool.and_eq_true, Nat.ble_eq] at hc
    obtain ⟨⟨hc1, hc2⟩, hsz⟩ := hc
    have hn := size_is hsz
    cases hx with | slc _ _ _ _ _ b cap' r r1 r2 r3 r4 r5 r6 =>
    have hb := bounds_sound (P := P) w true len cap' hl hh hm el eh em hc1 (by simp; omega) (by simp) (by simp)
    have hrun := run_slice hu hn (a := ⟨b, off, none⟩) hb
    simp only [Option.getD_none] at hrun
    refine ⟨_, hrun, ?_⟩
    generalize l.getD 0 = l at *
    generalize h0.getD len = h1 at *
    unfold slice2A at h
    have hmul : (h1 - l) * esz + l * esz ≤ len * esz := by rw [← Nat.add_mul]; exact Nat.mul_le_mul_right _ (by omega)
    have hmulc : (cap' - l) * esz + l * esz = cap' * esz := by rw [← Nat.add_mul]; congr 1; omega
    cases hl0 : Nat.beq l 0
    · rw [hl0] at h
      simp only [cond_false] at h
      have hl0' : l ≠ 0 := by intro e; rw [e] at hl0; cases hl0
      cases hlt : Nat.blt l len
      · rw [hlt] at h
        simp only [cond_false] at h
        split at h
        · rename_i c
          cases h
          obtain ⟨rfl, r7⟩ := r5 c rfl
          cases hcl : Nat.beq cap' l
          · have : cap' ≠ l := by intro e; rw [e] at hcl; simp at hcl
            rw [if_neg this, add_none]
            exact .slc _ _ _ _ _ _ _ r r1 r2 (by simp only [cond_false]; omega) (by omega) (fun c hc => by cases hc; exact ⟨rfl, by simp only [cond_false]; omega⟩) (by simp only [cond_false]; omega)
          · have : cap' = l := by simpa using hcl
            rw [if_pos this]
            subst this
            exact .slc _ _ _ _ _ _ _ r r1 r2 (by simp only [cond_true]; rw [show h1 - cap' = 0 by omega]; omega) (by omega) (fun c hc => by cases hc; exact ⟨rfl, by simp only [cond_true]; rw [show cap' - cap' = 0 by omega]; omega⟩) (by simp only [cond_true]; rw [show cap' - cap' = 0 by omega]; omega)
        · cases h
      · rw [hlt] at h
        simp only [cond_true] at h
        cases h
        have hlt' : l < len := by simpa [Nat.blt_eq] using hlt
        rw [if_neg (by omega), add_none]
        refine .slc _ _ _ _ _ _ _ r r1 r2 (by omega) (by omega) ?_ (by omega)
        intro c hc
        cases cap with
        | none => cases hc
        | some c0 =>
          cases hc
          obtain ⟨rfl, r7⟩ := r5 c0 rfl
          exact ⟨rfl, by omega⟩
    · rw [hl0] at h
      simp only [cond_true] at h
      cases h
      have hl0' : l = 0 := by simpa using hl0
      subst hl0'
      rw [Nat.zero_mul, add_none, Nat.add_zero, Nat.sub_zero, Nat.sub_zero]
      rw [show (if cap' = 0 then (⟨b, off, none⟩ : Addr) else ⟨b, off, none⟩) = ⟨b, off, none⟩ by split <;> rfl]
      exact .slc _ _ _ _ _ _ _ r r1 r2 (by rw [Nat.sub_zero] at hmul; omega) (by omega) r5 r6
  · rename_i e id off len cap0 esz l h0 m0 hu el eh em
    obtain ⟨hc, h9⟩ := bif_some h
    clear h
    have h := h9
    clear h9
    simp only [Bool.and_eq_true, Nat.ble_eq] at hc
    obtain ⟨⟨hc1, hc2⟩, hsz⟩ := hc
    have hn := size_is hsz
    cases hx with | slc _ _ _ _ _ b cap' r r1 r2 r3 r4 r5 r6 =>
    unfold slice3A at h
    obtain ⟨hd, h⟩ := bif_some h
    cases h
    simp only [Bool.and_eq_true, Nat.ble_eq] at hd
    have hb := bounds_sound (P := P) w true len cap' hl hh hm el eh em hc1 (by simpa using hd.1) (by simp; omega) (by simp)
    have hrun := run_slice hu hn (a := ⟨b, off, none⟩) hb
    simp only [Option.getD_some] at hrun hc1
    refine ⟨_, hrun, ?_⟩
    generalize l.getD 0 = l at *
    have hmul : (h0 - l) * esz + l * esz ≤ len * esz := by rw [← Nat.add_mul]; exact Nat.mul_le_mul_right _ (by omega)
    have hmulm : (m0 - l) * esz + l * esz ≤ len * esz := by rw [← Nat.add_mul]; exact Nat.mul_le_mul_right _ (by omega)
    have hmulc : (m0 - l) * esz + l * esz ≤ cap' * esz := by rw [← Nat.add_mul]; exact Nat.mul_le_mul_right _ (by omega)
    cases hcl : Nat.beq m0 l
    · have : m0 ≠ l := by intro e; rw [e] at hcl; simp at hcl
      rw [if_neg this, add_none]
      exact .slc _ _ _ _ _ _ _ r r1 r2 (by simp only [cond_false]; omega) (by omega) (fun c hc => by cases hc; exact ⟨rfl, by simp only [cond_false]; omega⟩) (by simp only [cond_false]; omega)
    · have : m0 = l := by simpa using hcl
      rw [if_pos this]
      subst this
      exact .slc _ _ _ _ _ _ _ r r1 r2 (by simp only [cond_true]; rw [show h0 - m0 = 0 by omega]; omega) (by omega) (fun c hc => by cases hc; exact ⟨rfl, by simp only [cond_true]; rw [show m0 - m0 = 0 by omega]; omega⟩) (by simp only [cond_true]; rw [show m0 - m0 = 0 by omega]; omega)
  · rename_i e l h0 m0 hu el eh em
    obtain ⟨hc, h⟩ := bif_some h
    cases h
    simp only [Bool.and_eq_true, Nat.beq_eq] at hc
    obtain ⟨⟨⟨⟨hc1, hc2⟩, hc3⟩, hc4⟩, hc5⟩ := hc
    obtain ⟨n, hn⟩ := Option.isSome_iff_exists.1 hc5
    cases hx
    have hb := bounds_sound (P := P) w true 0 0 hl hh hm el eh em (by omega) (by omega) (by omega) (by
      intro hs
      cases m0 with
      | none => cases hs
      | some _ => simpa using hc4)
    rw [hc1, hc2, hc3] at hb
    refine ⟨.slice none 0 0, ?_, .nils⟩
    simp only [Instr.sliceAt, Sem.run_bind, run_underlying hu, Result.andThen_ok, Instr.slice, hb, run_sizeOf' e w n hn, Sem.run_pure]
    rfl
  · cases h
end Go.AM
namespace Go.AM
open Go
variable {P : Program}

theorem fieldAddr_sound {σ : Own} {w : World} {s : TypeId} {x v : AV} {f : Nat} (h : fieldAddrA P s x f = some v) {x' : Value} (hx : VR σ x x') : Yes P σ w (Instr.fieldAt s x' f) v := by
  unfold fieldAddrA at h
  split at h
  · rename_i fs id off lim hu
    split at h
    · rename_i fd hf
      split at h
      · rename_i n hn
        obtain ⟨hb, h⟩ := bif_some h
        cases h
        cases hx with | ptr _ _ _ b r r1 r2 r3 =>
        have hn0 : ¬ n = 0 := by have : 0 < n := by simpa [Nat.blt_eq] using hb
                                 omega
        refine ⟨.pointer (some ⟨b, off + fd.offset, none⟩), ?_, .ptr _ _ _ _ r r1 r2 r3⟩
        simp only [Instr.fieldAt, Sem.run_bind, run_underlying hu, Result.andThen_ok, hf, Instr.sureAddr, Sem.run_pure, fieldPlace, run_sizeOf' fd.type w n hn, Sem.run_ite, if_neg hn0, add_none]
      · cases h
    · cases h
  · cases h

theorem field_sound {σ : Own} {w : World} {t : TypeId} {x v : AV} {f : Nat} (h : fieldA P t x f = some v) {x' : Value} (hx : VR σ x x') : Yes P σ w (Instr.field t x' f) v := by
  unfold fieldA at h
  split at h
  · rename_i fs cs hu
    split at h
    · rename_i fd hf
      obtain ⟨ys, rfl, hl⟩ := hx.agg_inv
      obtain ⟨u, h1, h2⟩ := partA_sound (P := P) (w := w) hl h
      refine ⟨u, ?_, h2⟩
      simp only [Instr.field, Sem.run_bind, run_underlying hu, Result.andThen_ok, hf, asAgg, Sem.run_pure, h1]
    · cases h
  · cases h

theorem indexAddr_sound {σ : Own} {w : World} {t : TypeId} {x i v : AV} (h : indexAddrA P t x i = some v) {x' i' : Value} (hx : VR σ x x') (hi : VR σ i i') : Yes P σ w (Instr.indexAt t x' i') v := by
  unfold indexAddrA at h
  split at h
  · rename_i len e id off lim n hu hn
    split at h
    · rename_i s hs
      obtain ⟨hb, h⟩ := bif_some h
      cases h
      simp only [Bool.and_eq_true, Nat.blt_eq] at hb
      obtain ⟨k, rfl⟩ := asNat_inv hn hi
      cases hx with | ptr _ _ _ b r r1 r2 r3 =>
      refine ⟨.pointer (some ⟨b, off + n * s, none⟩), ?_, .ptr _ _ _ _ r r1 r2 r3⟩
      have hc : 0 ≤ Int.ofNat n ∧ Int.ofNat n < (len : Int) := ⟨by simp, by simpa using hb.1⟩
      simp only [Instr.indexAt, asIntOf, Sem.run_bind, Sem.run_pure, Result.andThen_ok, run_underlying hu, Instr.sureAddr, if_pos hc, run_sizeOf' e w s hs]
      simp [add_none]
    · cases h
  · rename_i e id off len cap esz n hu hn
    split at h
    · rename_i s hs
      obtain ⟨hb, h⟩ := bif_some h
      cases h
      simp only [Bool.and_eq_true, Nat.blt_eq, Nat.beq_eq] at hb
      obtain ⟨⟨h1, h2⟩, h3⟩ := hb
      subst h2
      obtain ⟨k, rfl⟩ := asNat_inv hn hi
      cases hx with | slc _ _ _ _ _ b cap' r r1 r2 r3 r4 r5 r6 =>
      refine ⟨.pointer (some ⟨b, off + n * s, none⟩), ?_, .ptr _ _ _ _ r r1 r2 r3⟩
      have hc : 0 ≤ Int.ofNat n ∧ Int.ofNat n < (len : Int) := ⟨by simp, by simpa using h1⟩
      simp only [Instr.indexAt, asIntOf, Sem.run_bind, Sem.run_pure, Result.andThen_ok, run_underlying hu, if_pos hc, run_sizeOf' e w s hs]
      simp [add_none]
    · cases h
  · cases h

theorem index_sound {σ : Own} {w : World} {t : TypeId} {x i v : AV} (h : indexA P t x i = some v) {x' i' : Value} (hx : VR σ x x') (hi : VR σ i i') : Yes P σ w (Instr.index t x' i') v := by
  unfold indexA at h
  split at h
  · rename_i len e cs n hu hn
    split at h
    · rename_i s hs
      obtain ⟨hb, h⟩ := bif_some h
      obtain ⟨k, rfl⟩ := asNat_inv hn hi
      obtain ⟨ys, rfl, hl⟩ := hx.agg_inv
      obtain ⟨u, h1, h2⟩ := partA_sound (P := P) (w := w) hl h
      refine ⟨u, ?_, h2⟩
      have hc : 0 ≤ Int.ofNat n ∧ Int.ofNat n < (len : Int) := ⟨by simp, by simpa [Nat.blt_eq] using hb⟩
      simp only [Instr.index, asIntOf, Sem.run_bind, Sem.run_pure, Result.andThen_ok, run_underlying hu, if_pos hc, run_sizeOf' e w s hs]
      exact h1
    · cases h
  · rename_i s n hu hn
    split at h
    · rename_i b hb
      cases h
      obtain ⟨k, rfl⟩ := asNat_inv hn hi
      cases hx with | str _ a ha =>
      subst ha
      refine ⟨.int .u8 (Int.ofNat b), ?_, .int _ _⟩
      simp only [bytesOf, List.getElem?_map, Option.map_eq_some_iff] at hb
      obtain ⟨c, hc, rfl⟩ := hb
      have hlt : n < a.size := by
        have := (List.getElem?_eq_some_iff.1 hc).1
        simpa using this
      have hg : a[n]? = some c := by
        rw [getElem?_pos a n hlt]
        have := (List.getElem?_eq_some_iff.1 hc).2
        simp at this ⊢
        exact this
      simp only [Instr.index, asIntOf, Sem.run_bind, Sem.run_pure, Result.andThen_ok, run_underlying hu]
      simp [hg]
    · cases h
  · cases h

theorem extract_sound {σ : Own} {w : World} {x v : AV} {i : Nat} (h : extractA x i = some v) {x' : Value} (hx : VR σ x x') : Yes P σ w (Instr.extract x' i) v := by
  unfold extractA at h
  split at h
  · obtain ⟨ys, rfl, hl⟩ := hx.tup_inv
    obtain ⟨y, h1, h2⟩ := hl.2 i v h
    refine ⟨y, ?_, h2⟩
    simp at h1
    simp [Instr.extract, h1]
  · cases h

theorem typeAssert_sound {σ : Own} {w : World} {x v : AV} {xt a : TypeId} {ok : Bool} (h : typeAssertA P x a ok = some v) {x' : Value} (hx : VR σ x x') : Yes P σ w (Instr.typeAssert x' xt a ok) v := by
  unfold typeAssertA at h
  split at h
  · cases h
  · rename_i d t u hn hu
    cases hx with | ifc _ _ u' hv =>
    have hd : ∀ ms, d ≠ .interface ms := fun ms e => hn ms (by rw [← e])
    cases hc : Nat.beq t a
    · rw [hc] at h
      simp only [cond_false] at h
      split at h
      · rename_i z hz
        cases h
        obtain ⟨z', h1, rfl⟩ := zeroVal_some hz
        have : ¬ t = a := by intro e; rw [e] at hc; simp at hc
        refine ⟨.tuple #[z', .bool false], ?_, .tup' (LR.cons (ofValue_VR σ z') (LR.cons (.bool false) (LR.nil σ)))⟩
        simp only [Instr.typeAssert, Sem.run_bind, run_underlying hu, Result.andThen_ok]
        cases d <;> first | (exact absurd rfl (hd _)) | (simp [this, h1])
      · cases h
    · rw [hc] at h
      simp only [cond_true] at h
      cases h
      have : t = a := by simpa using hc
      refine ⟨.tuple #[u', .bool true], ?_, .tup' (LR.cons hv (LR.cons (.bool true) (LR.nil σ)))⟩
      simp only [Instr.typeAssert, Sem.run_bind, run_underlying hu, Result.andThen_ok]
      cases d <;> first | (exact absurd rfl (hd _)) | (simp [this])
  · rename_i d hn hu
    cases hx
    have hd : ∀ ms, d ≠ .interface ms := fun ms e => hn ms (by rw [← e])
    split at h
    · rename_i z hz
      cases h
      obtain ⟨z', h1, rfl⟩ := zeroVal_some hz
      refine ⟨.tuple #[z', .bool false], ?_, .tup' (LR.cons (ofValue_VR σ z') (LR.cons (.bool false) (LR.nil σ)))⟩
      simp only [Instr.typeAssert, Sem.run_bind, run_underlying hu, Result.andThen_ok]
      cases d <;> first | (exact absurd rfl (hd _)) | (simp [h1])
    · cases h
  · rename_i d t u hn hu
    cases hx with | ifc _ _ u' hv =>
    have hd : ∀ ms, d ≠ .interface ms := fun ms e => hn ms (by rw [← e])
    obtain ⟨hc, h⟩ := bif_some h
    cases h
    have : t = a := by simpa using hc
    refine ⟨u', ?_, hv⟩
    simp only [Instr.typeAssert, Sem.run_bind, run_underlying hu, Result.andThen_ok]
    cases d <;> first | (exact absurd rfl (hd _)) | (simp [this])
  · cases h

theorem ifc_sound {σ : Own} {w : World} {t : TypeId} {x v : AV} (h : ifcA P t x = some v) {x' : Value} (hx : VR σ x x') : Yes P σ w (Instr.makeInterface t x') v := by
  unfold ifcA at h
  split at h
  · cases h
  · rename_i d hn hu
    cases h
    refine ⟨.iface t x', ?_, .ifc t _ _ hx⟩
    have hd : ∀ ms, d ≠ .interface ms := fun ms e => hn ms (by rw [← e])
    simp only [Instr.makeInterface, Sem.run_bind, run_underlying hu, Result.andThen_ok]
    cases d <;> first | (exact absurd rfl (hd _)) | rfl
  · cases h

theorem pick_sound {σ : Own} {w : World} {c a b v : AV} (h : pickA c a b = some v) {c' a' b' : Value} (hc : VR σ c c') (ha : VR σ a a') (hb : VR σ b b') :
    ∃ y, (do pure (if ← asBool c' then a' else b') : Sem Value).run P w = .ok y w ∧ VR σ v y := by
  unfold pickA at h
  split at h
  · rename_i t
    cases h; cases hc
    refine ⟨if t then a' else b', by simp [asBool], ?_⟩
    cases t
    · exact hb
    · exact ha
  · cases h

theorem opt_OVR {σ : Own} {ρA : Operand → AV} {ρ : Operand → Value} (hρ : ∀ x, VR σ (ρA x) (ρ x)) (o : Option Operand) : OVR σ (o.map ρA) (o.map ρ) := by
  cases o with
  | none => trivial
  | some x => exact hρ x

theorem parts_PR {σ : Own} {ρA : Operand → AV} {ρ : Operand → Value} (hρ : ∀ x, VR σ (ρA x) (ρ x)) (ps : Array (Nat × Operand)) : PR σ (partsA ρA ps) (ps.map fun p => (p.1, ρ p.2)).toList := by
  unfold partsA
  rw [Array.toList_map]
  generalize ps.toList = l
  induction l with
  | nil => trivial
  | cons p l ih => exact ⟨rfl, hρ _, ih⟩

theorem ops_LR {σ : Own} {ρA : Operand → AV} {ρ : Operand → Value} (hρ : ∀ x, VR σ (ρA x) (ρ x)) (ps : Array Operand) : LR σ (ps.toList.map ρA) (ps.map ρ).toList := by
  rw [Array.toList_map]
  generalize ps.toList = l
  induction l with
  | nil => exact LR.nil σ
  | cons p l ih => exact LR.cons (hρ _) ih

/-- THE PURE OPERATIONS. -/
theorem pure_sound {C : Cfg} {σ : Own} {ρA : Operand → AV} {ρ : Operand → Value} (hρ : ∀ x, VR σ (ρA x) (ρ x)) {o : Oper} {v : AV} (h : pureA C ρA o.op = some v) (w : World) :
    ∃ y, (execOp ρ o).run C.P w = .ok (.value y) w ∧ VR σ v y := by
  unfold execOp
  unfold pureA at h
  have lift : ∀ (s : Sem Value), Yes C.P σ w s v → ∃ y, (do pure (.value (← s)) : Sem Next).run C.P w = .ok (.value y) w ∧ VR σ v y := fun s ⟨y, h1, h2⟩ => ⟨y, by simp [h1], h2⟩
  split at h
  all_goals (rename_i hop)
  all_goals (try (simp only [hop]))
  · cases h; exact ⟨_, rfl, hρ _⟩
  · cases h; exact ⟨_, rfl, hρ _⟩
  · obtain ⟨y, h1, h2⟩ := pick_sound (P := C.P) (w := w) h (hρ _) (hρ _) (hρ _)
    refine ⟨y, ?_, h2⟩
    simp only [Sem.run_bind] at h1 ⊢
    generalize (asBool _).run C.P w = r at h1 ⊢
    cases r with
    | ok b w' => simp only [Result.andThen_ok, Sem.run_pure, Result.ok.injEq] at h1 ⊢; exact ⟨by rw [h1.1], h1.2⟩
    | halt x w' => simp at h1
  · exact lift _ (build_sound h (parts_PR hρ _))
  · rename_i x
    unfold nilCheckA at h
    have hx := hρ x
    generalize ρ x = x' at hx ⊢
    split at h
    all_goals rename_i hρx
    · cases h
      rw [hρx] at hx
      cases hx
      exact ⟨_, rfl, by rw [hρx]; exact .ptr _ _ _ _ _ (by assumption) (by assumption) (by assumption)⟩
    · cases h
      rw [hρx] at hx
      obtain ⟨c, d, rfl, h1, h2⟩ := hx.fn_inv
      exact ⟨_, rfl, by rw [hρx]; exact .fn' h1 h2⟩
    · cases h
      rw [hρx] at hx
      cases hx with | ifc _ _ u' hv => exact ⟨_, rfl, by rw [hρx]; exact .ifc _ _ _ hv⟩
    · cases h
  · obtain ⟨u, h1, h2, h3⟩ := binOp_sound (P := C.P) h (hρ _) (hρ _) w
    exact lift _ ⟨u, by simp [h1, h2], h3⟩
  · exact lift _ (unOp_sound h (hρ _) w)
  · exact lift _ (ifc_sound h (hρ _))
  · cases h
    exact ⟨_, rfl, .fn' (ops_LR hρ _) (ops_LR hρ _)⟩
  · exact lift _ (slice_sound h (hρ _) (opt_OVR hρ _) (opt_OVR hρ _) (opt_OVR hρ _))
  · exact lift _ (fieldAddr_sound h (hρ _))
  · exact lift _ (field_sound h (hρ _))
  · exact lift _ (indexAddr_sound h (hρ _) (hρ _))
  · exact lift _ (index_sound h (hρ _) (hρ _))
  · exact lift _ (extract_sound h (hρ _))
  · exact lift _ (typeAssert_sound h (hρ _))
  · cases h
end Go.AM
namespace Go.AM
open Go
variable {P : Program}

/-- What a making operation does: it makes one block. -/
def Makes (P : Program) (σ : Own) (w : World) (s : Sem Value) (nb : NB) : Prop :=
  ∃ (y : Value) (o : Obj) (m csz : Nat), s.run P w = .ok y (w.alloc o) ∧ ∀ id, σ w.heap.size = none →
    BR (σ.set w.heap.size ⟨id, m, csz⟩) nb.blk ⟨id, m, csz⟩ o ∧ VR (σ.set w.heap.size ⟨id, m, csz⟩) (nb.val id) y

theorem run_newRow' (e : TypeId) (c : Array Value) (w : World) : (newRow e c).run P w = .ok ⟨w.heap.size, 0, none⟩ (w.alloc (.cells c e)) := by
  simp [newRow]

theorem BR_new {σ : Own} {l : List AV} {c : Array Value} (h : LR σ l c.toList) (e : TypeId) (id : Nat) : BR σ (.cells l e 0 0) ⟨id, l.length, l.length⟩ (.cells c e) := by
  have hl : l.length = c.size := by simpa using h.1
  refine ⟨c, (0, 0), rfl, hl.symm, Nat.le_refl _, Nat.le_refl _, fun i x _ hx => ?_, .inl rfl, fun _ => rfl⟩
  exact h.to_arr.2 i x hx

theorem makes_var {σ : Own} {w : World} {l : List AV} {v : Value} (h : LR σ l v.cells.toList) (e : TypeId) :
    Makes P σ w (do pure (.pointer (some (← newVar e v)))) ⟨.cells l e 0 0, fun id => .ptr id 0 l.length⟩ := by
  refine ⟨.pointer (some ⟨w.heap.size, 0, none⟩), .cells v.cells e, l.length, l.length, ?_, fun id hn => ⟨?_, ?_⟩⟩
  · simp only [newVar, Sem.run_bind, run_newRow', Result.andThen_ok, Sem.run_pure]
  · exact BR_new (h.mono (Own.le_set_new σ _ hn)) e id
  · exact .ptr _ _ _ _ _ (Own.set_same _ _ _) rfl (Nat.le_refl _)

theorem repeat_LR {σ : Own} {z : List AV} {zv : Array Value} (h : LR σ z zv.toList) : ∀ n, LR σ (repeatL z n) ((List.range (n * zv.size)).map fun i => zv[i % zv.size]!) := by
  intro n
  have hz : z.length = zv.size := by simpa using h.1
  have hlen : ∀ n, (repeatL z n).length = n * zv.size := by
    intro n; induction n with
    | zero => simp [repeatL]
    | succ n ih => rw [repeatL, List.length_append, ih, hz, Nat.succ_mul]; omega
  refine ⟨by rw [hlen]; simp, ?_⟩
  induction n with
  | zero => intro i x hx; simp [repeatL] at hx
  | succ n ih =>
    intro i x hx
    rw [repeatL] at hx
    have hi : i < (n + 1) * zv.size := by
      have := (List.getElem?_eq_some_iff.1 hx).1
      rw [List.length_append, hlen, hz] at this
      rw [Nat.succ_mul]; omega
    refine ⟨zv[i % zv.size]!, by simp [hi], ?_⟩
    by_cases hc : i < z.length
    · rw [List.getElem?_append_left hc] at hx
      obtain ⟨y, k1, k2⟩ := h.2 i x hx
      rw [hz] at hc
      rw [Nat.mod_eq_of_lt hc]
      simp at k1
      rw [getElem!_def, k1]; exact k2
    · rw [List.getElem?_append_right (by omega), hz] at hx
      obtain ⟨y, k1, k2⟩ := ih _ x hx
      simp only [List.getElem?_map, Option.map_eq_some_iff] at k1
      obtain ⟨j, hj, rfl⟩ := k1
      obtain ⟨hlt, rfl⟩ := List.getElem?_eq_some_iff.1 hj
      simp only [List.getElem_range] at k2
      have : (i - zv.size) % zv.size = i % zv.size := by
        rw [← Nat.mod_eq_sub_mod (by omega)]
      rw [this] at k2
      exact k2

theorem buildSlice_sound {σ : Own} {w : World} {t : TypeId} {len : Nat} {pa : List (Nat × AV)} {nb : NB} (h : buildSliceA P t len pa = some nb) {pv : Array (Nat × Value)} (hp : PR σ pa pv.toList) :
    Makes P σ w (Instr.buildSlice t len pv) nb := by
  unfold buildSliceA at h
  split at h
  · rename_i e hu
    split at h
    · rename_i n z hn hz
      obtain ⟨hb, h⟩ := bif_some h
      simp only [Bool.and_eq_true, Nat.beq_eq, Nat.ble_eq, Nat.blt_eq] at hb
      obtain ⟨⟨hb1, hb2⟩, hb3⟩ := hb
      split at h
      · rename_i cs hf
        cases h
        obtain ⟨i, zv, hi, hzv, rfl⟩ := zeroCells_some hz
        have hzl : zv.cells.size = n := by simpa using hb1
        have hrep := repeat_LR (cell1_LR σ zv.cells.toList) len
        rw [hzl] at hrep
        obtain ⟨c', k1, k2⟩ := fill_sound (pl' := fun i => some (i * n, n)) (σ := σ) (fun i p hp => hp) pa pv.toList _ cs ((Array.range (len * n)).map (zv.cells[· % n]!)) hp (by rw [Array.toList_map, Array.toList_range]; exact hrep) hf
        refine ⟨.slice (some ⟨w.heap.size, 0, none⟩) len len, .cells c' e, cs.length, cs.length, ?_, fun id hnone => ⟨BR_new (k2.mono (Own.le_set_new σ _ hnone)) e id, ?_⟩⟩
        · have hbig : ¬ len * n > 2 ^ 24 := by omega
          simp only [Instr.buildSlice, Sem.run_bind, run_underlying hu, Result.andThen_ok, run_sizeOf' e w n hn, Sem.run_ite, if_neg hbig]
          have key : ∀ zc : Array Value, (len * n ≠ 0 → zc = zv.cells) → ((Array.range (len * n)).map (zc[· % zc.size]!)) = (Array.range (len * n)).map (zv.cells[· % n]!) := by
            intro zc hzc
            by_cases h0 : len * n = 0
            · rw [h0]; simp
            · rw [hzc h0, hzl]
          by_cases h0 : len * n = 0
          · simp only [if_pos h0, Sem.run_bind, Sem.run_pure, Result.andThen_ok, key #[] (fun hne => absurd h0 hne), k1, run_newRow']
          · simp only [if_neg h0, Sem.run_bind, run_zeroValue' hi hzv, Result.andThen_ok, Sem.run_pure, key zv.cells (fun _ => rfl), k1, run_newRow']
        · have hcl : cs.length = len * n := by
            have := k2.1
            -- the length abides
            have hl2 : ∀ (l : List (Nat × AV)) (a b : List AV), fillA (fun i => some (i * n, n)) a l = some b → b.length = a.length := by
              intro l
              induction l with
              | nil => intro a b hab; cases hab; rfl
              | cons p l ih =>
                intro a b hab
                obtain ⟨i, v⟩ := p
                simp only [fillA] at hab
                split at hab
                · obtain ⟨_, hab⟩ := bif_some hab
                  rw [ih _ _ hab, overwrite_length]
                · cases hab
            rw [hl2 _ _ _ hf, hrep.1]; simp
          exact .slc _ _ _ _ _ _ _ _ (Own.set_same _ _ _) rfl (by simp only; omega) (Nat.le_refl _) (fun c hc => by cases hc; exact ⟨rfl, by simp only; omega⟩) (by simp only; omega)
      · cases h
    · cases h
  · cases h

end Go.AM
namespace Go.AM
open Go
variable {P : Program}
theorem notBig (b i : Nat) (h : i * b ≤ 10000000000) : decide ((i : Int) * (b : Int) > 2 ^ 48) = false := by
  have : ((i : Int) * (b : Int)) = ((i * b : Nat) : Int) := by simp
  rw [this, decide_eq_false_iff_not]
  omega
theorem run_mk {t e : TypeId} {i : TypeInfo} {zv : Value} (k1 k2 : IntKind) (a b : Nat) (hu : P.underlying t = some (.slice e)) (hi : P.info? e = some i) (hzv : i.zero = some zv)
    (hab : a ≤ b) (hb : b ≤ 100000) (hby : i.bytes ≤ 100000) (w : World) :
    (Instr.makeSlice t (.int k1 (a : Int)) (.int k2 (b : Int))).run P w = .ok (.slice (some ⟨w.heap.size, 0, none⟩) a b) (w.alloc (.cells ((Array.range (b * i.size)).map (zv.cells[· % zv.cells.size]!)) e)) := by
  have wa : IntKind.i64.wrap (a : Int) = a := wrap64_small a (by omega)
  have wb : IntKind.i64.wrap (b : Int) = b := wrap64_small b (by omega)
  have t1 := notBig b i.bytes (Nat.le_trans (Nat.mul_le_mul hby hb) (by omega))
  have t2 : decide ((b : Int) < 0) = false := by simp
  have t3 : decide ((a : Int) < 0) = false := by simp
  have t4 : decide ((a : Int) > (b : Int)) = false := by simp; omega
  unfold Instr.makeSlice
  simp only [Sem.run_bind, run_underlying hu, Result.andThen_ok, asInt, asIntOf, Sem.run_pure, typeInfo, run_program, hi, wa, wb]
  rw [t1, t2, t3, t4]
  rw [if_neg (by simp)]
  have hs : (sizeOf e).run P w = .ok i.size w := run_sizeOf' e w i.size (by unfold sizeT; rw [hi])
  simp only [Int.toNat_natCast, Sem.run_bind, run_askRoom, Result.andThen_ok, hs]
  by_cases h0 : b * i.size = 0
  · rw [if_pos h0]
    have r0 : ∀ f : Nat → Value, (Array.range 0).map f = #[] := fun f => by simp
    simp only [Sem.run_bind, Sem.run_pure, Result.andThen_ok, run_newRow', h0, r0]
  · rw [if_neg h0]
    simp only [Sem.run_bind, Sem.run_pure, Result.andThen_ok, run_newRow', run_zeroValue' hi hzv]

theorem makeSlice_sound {σ : Own} {w : World} {t : TypeId} {l c : AV} {nb : NB} (h : makeSliceA P t l c = some nb) {l' c' : Value} (hl : VR σ l l') (hc : VR σ c c') : Makes P σ w (Instr.makeSlice t l' c') nb := by
  unfold makeSliceA at h
  split at h
  · rename_i e k1 a k2 b hu
    split at h
    · rename_i i z hi hz
      obtain ⟨hb, h⟩ := bif_some h
      cases h
      simp only [Bool.and_eq_true, Nat.beq_eq, Nat.ble_eq, Nat.blt_eq] at hb
      obtain ⟨⟨⟨⟨h1, h2⟩, h3⟩, h4⟩, h5⟩ := hb
      cases hl; cases hc
      obtain ⟨i', zv, hi', hzv, rfl⟩ := zeroCells_some hz
      rw [hi] at hi'; cases hi'
      have hzl : zv.cells.size = i.size := by simpa using h4
      have hrep := repeat_LR (cell1_LR σ zv.cells.toList) b
      have hlen : (repeatL (List.map cell1 zv.cells.toList) b).length = b * i.size := by rw [hrep.1]; simp [hzl]
      refine ⟨.slice (some ⟨w.heap.size, 0, none⟩) a b, .cells ((Array.range (b * i.size)).map (zv.cells[· % zv.cells.size]!)) e, b * i.size, b * i.size, run_mk k1 k2 a b hu hi hzv h1 h2 h3 w, fun id hnone => ⟨?_, ?_⟩⟩
      · have hrep2 : LR (σ.set w.heap.size ⟨id, b * i.size, b * i.size⟩) (repeatL (List.map cell1 zv.cells.toList) b) ((Array.range (b * i.size)).map (zv.cells[· % zv.cells.size]!)).toList := by
          rw [Array.toList_map, Array.toList_range, ← hzl]
          exact hrep.mono (Own.le_set_new σ _ hnone)
        have := BR_new hrep2 e id
        rwa [hlen] at this
      · have hm := Nat.mul_le_mul_right i.size h1
        exact .slc _ _ _ _ _ _ _ _ (Own.set_same _ _ _) rfl (by simp only; omega) h1 (fun c hc => by cases hc; exact ⟨rfl, by simp only; omega⟩) (by simp only; omega)
    · cases h
  · cases h
/-- THE MAKING OPERATIONS. -/
theorem alloc_sound {C : Cfg} {σ : Own} {ρA : Operand → AV} {ρ : Operand → Value} (hρ : ∀ x, VR σ (ρA x) (ρ x)) {o : Oper} {nb : NB} (h : allocA C ρA o.op = some nb) (w : World) :
    ∃ (y : Value) (ob : Obj) (m csz : Nat), (execOp ρ o).run C.P w = .ok (.value y) (w.alloc ob) ∧ ∀ id, σ w.heap.size = none →
      BR (σ.set w.heap.size ⟨id, m, csz⟩) nb.blk ⟨id, m, csz⟩ ob ∧ VR (σ.set w.heap.size ⟨id, m, csz⟩) (nb.val id) y := by
  unfold execOp
  unfold allocA at h
  have lift : ∀ (s : Sem Value), Makes C.P σ w s nb → ∃ (y : Value) (ob : Obj) (m csz : Nat), (do pure (.value (← s)) : Sem Next).run C.P w = .ok (.value y) (w.alloc ob) ∧ ∀ id, σ w.heap.size = none →
      BR (σ.set w.heap.size ⟨id, m, csz⟩) nb.blk ⟨id, m, csz⟩ ob ∧ VR (σ.set w.heap.size ⟨id, m, csz⟩) (nb.val id) y := fun s ⟨y, ob, m, csz, h1, h2⟩ => ⟨y, ob, m, csz, by simp [h1], h2⟩
  split at h
  all_goals (rename_i hop)
  all_goals (try (simp only [hop]))
  · refine lift _ ?_
    unfold newA at h
    split at h
    · rename_i l hl
      cases h
      obtain ⟨i, zv, hi, hzv, rfl⟩ := zeroCells_some hl
      have := makes_var (P := C.P) (w := w) (cell1_LR σ zv.cells.toList) (v := zv) (by assumption)
      obtain ⟨y, ob, m, csz, h1, h2⟩ := this
      refine ⟨y, ob, m, csz, ?_, h2⟩
      simp only [Instr.alloc, Sem.run_bind, run_zeroValue' hi hzv, Result.andThen_ok]
      simpa using h1
    · cases h
  · refine lift _ ?_
    unfold boxA at h
    split at h
    · rename_i l hl
      cases h
      exact makes_var (P := C.P) (w := w) (cellsOf_LR hl (hρ _)) _
    · cases h
  · exact lift _ (buildSlice_sound h (parts_PR hρ _))
  · cases h
    refine ⟨.map (some w.heap.size), .map #[] 0, 0, 0, ?_, fun id hnone => ⟨⟨#[], rfl, rfl, fun i e he => by simp at he⟩, .map _ _ _ (Own.set_same _ _ _) rfl⟩⟩
    simp [Instr.makeMap]
  · exact lift _ (makeSlice_sound h (hρ _) (hρ _))
  · cases h
end Go.AM
namespace Go.AM
open Go
variable {P : Program}

theorem keyEq_sound {kt : TypeId} {a b : AV} {c : Bool} (h : keyEq P kt a b = some c) {σ : Own} {a' b' : Value} (ha : VR σ a a') (hb : VR σ b b') (w : World) : (Op.equal kt a' b').run P w = .ok c w := by
  unfold Op.equal
  rw [show Op.maxDepth = 9999 + 1 from rfl]
  have hD : 20 ≤ 9999 + 1 := by omega
  generalize 9999 + 1 = D at hD ⊢
  unfold keyEq at h
  split at h
  · exact eqIn_sound 20 kt _ _ c h σ a' b' ha hb D hD w
  · cases h
  · cases h
  · exact eqIn_sound 1 kt _ _ c h σ a' b' ha hb D (by omega) w

theorem sameNow_equal {kt : TypeId} {d : TypeDesc} (hd : P.underlying kt = some d) {a b : Value} {c : Bool} (h : Instr.sameNow d a b = some c) (w : World) : (Op.equal kt a b).run P w = .ok c w := by
  unfold Op.equal
  rw [show Op.maxDepth = 9999 + 1 from rfl]
  generalize 9999 = D
  unfold Instr.sameNow at h
  split at h
  · split at h
    · rename_i hk
      cases h
      simp [Op.equalIn, run_underlying hd, hk]
    · cases h
  · cases h
    simp [Op.equalIn, run_underlying hd]
  · cases h
    simp [Op.equalIn, run_underlying hd]
  · cases h

/-- What a search answers, as the model has it: place and value. -/
def FR (σ : Own) (es : List (AV × AV × Nat)) (r : Option AV) (i : Nat) (r' : Option (Nat × Value)) : Prop :=
  match r, r' with
  | none, none => True
  | some v, some (j, v') => VR σ v v' ∧ i ≤ j ∧ ∃ e, es[j - i]? = some e ∧ e.2.1 = v
  | _, _ => False

def EL (σ : Own) (es : List (AV × AV × Nat)) (l : List MapEntry) : Prop := es.length = l.length ∧ ∀ (i : Nat) (e : AV × AV × Nat), es[i]? = some e → ∃ x : MapEntry, l[i]? = some x ∧ ER σ e x
theorem EL.uncons {σ : Own} {e : AV × AV × Nat} {es : List (AV × AV × Nat)} {l : List MapEntry} (h : EL σ (e :: es) l) : ∃ x l', l = x :: l' ∧ ER σ e x ∧ EL σ es l' := by
  cases l with
  | nil => have := h.1; simp at this
  | cons x l =>
    refine ⟨x, l, rfl, ?_, ⟨by have := h.1; simpa using this, fun i z hz => ?_⟩⟩
    · obtain ⟨u, h1, h2⟩ := h.2 0 e rfl
      simp at h1; subst h1; exact h2
    · obtain ⟨u, h1, h2⟩ := h.2 (i + 1) z (by simpa using hz)
      exact ⟨u, by simpa using h1, h2⟩
theorem EL.unnil {σ : Own} {l : List MapEntry} (h : EL σ [] l) : l = [] := by have := h.1; cases l <;> simp_all

def ansOf (l : List MapEntry) (i : Nat) : Option Nat → Option (Nat × Value)
  | none => none
  | some j => (l[j]?).map fun x => (i + j, x.val)

/-- The place of the entry that is found. -/
def posA (P : Program) (kt : TypeId) (k : AV) : List (AV × AV × Nat) → Option (Option Nat)
  | [] => some none
  | (k', _, _) :: es => match keyEq P kt k k' with
    | some true => some (some 0)
    | some false => (match posA P kt k es with | some (some j) => some (some (j + 1)) | some none => some none | none => none)
    | none => none

theorem findAsking_sound {kt : TypeId} {k : AV} {σ : Own} {k' : Value} (hk : VR σ k k') (w : World) : ∀ (es : List (AV × AV × Nat)) (l : List MapEntry) (i : Nat) (r : Option Nat), EL σ es l → posA P kt k es = some r →
    (Instr.findAsking kt k' l i).run P w = .ok (ansOf l i r) w := by
  intro es
  induction es with
  | nil => intro l i r hl h; rw [hl.unnil]; cases h; rfl
  | cons e es ih =>
    intro l i r hl h
    obtain ⟨x, l', rfl, hx, hl'⟩ := hl.uncons
    obtain ⟨ek, ev, eb⟩ := e
    simp only [posA] at h
    split at h
    · rename_i he
      cases h
      simp only [Instr.findAsking, Sem.run_bind, keyEq_sound he hk hx.key w, Result.andThen_ok]
      rfl
    · rename_i he
      split at h
      · rename_i j hj
        cases h
        simp only [Instr.findAsking, Sem.run_bind, keyEq_sound he hk hx.key w, Result.andThen_ok, Bool.false_eq_true, if_false]
        rw [ih l' (i + 1) (some j) hl' hj]
        simp only [ansOf, List.getElem?_cons_succ, show i + 1 + j = i + (j + 1) by omega]
      · rename_i hj
        cases h
        simp only [Instr.findAsking, Sem.run_bind, keyEq_sound he hk hx.key w, Result.andThen_ok, Bool.false_eq_true, if_false]
        exact ih l' (i + 1) none hl' hj
      · cases h
    · cases h

theorem findNow_sound {kt : TypeId} {d : TypeDesc} (hd : P.underlying kt = some d) {k : AV} {σ : Own} {k' : Value} (hk : VR σ k k') (w : World) : ∀ (es : List (AV × AV × Nat)) (l : List MapEntry) (i : Nat) (r : Option Nat), EL σ es l → posA P kt k es = some r →
    ∀ q, Instr.findNow d k' l i = some q → q = (ansOf l i r) := by
  intro es
  induction es with
  | nil => intro l i r hl h q hq; rw [hl.unnil] at hq; cases h; cases hq; rfl
  | cons e es ih =>
    intro l i r hl h q hq
    obtain ⟨x, l', rfl, hx, hl'⟩ := hl.uncons
    obtain ⟨ek, ev, eb⟩ := e
    simp only [posA] at h
    simp only [Instr.findNow] at hq
    have same : ∀ c c', keyEq P kt k ek = some c → Instr.sameNow d k' x.key = some c' → c = c' := by
      intro c c' h1 h2
      have e1 := keyEq_sound h1 hk hx.key w
      have e2 := sameNow_equal hd h2 w
      rw [e1] at e2
      cases e2; rfl
    split at h
    · rename_i he
      cases h
      split at hq
      · cases hq; rfl
      · rename_i hs; have := same _ _ he hs; cases this
      · cases hq
    · rename_i he
      split at hq
      · rename_i hs; have := same _ _ he hs; cases this
      · split at h
        · rename_i j hj
          cases h
          have := ih l' (i + 1) (some j) hl' hj q hq
          rw [this]
          simp only [ansOf, List.getElem?_cons_succ, show i + 1 + j = i + (j + 1) by omega]
        · rename_i hj
          cases h
          exact ih l' (i + 1) none hl' hj q hq
        · cases h
      · cases hq
    · cases h

theorem findKey_sound {kt : TypeId} {d : TypeDesc} (hd : P.underlying kt = some d) {k : AV} {σ : Own} {k' : Value} (hk : VR σ k k') (w : World) {es : List (AV × AV × Nat)} {l : List MapEntry} {r : Option Nat} (hl : EL σ es l) (h : posA P kt k es = some r) :
    (Instr.findKey kt k' l).run P w = .ok (ansOf l 0 r) w := by
  unfold Instr.findKey
  simp only [Sem.run_bind, run_underlying hd, Result.andThen_ok]
  cases hq : Instr.findNow d k' l 0 with
  | none =>
    simp only
    rw [findAsking_sound hk w es l 0 r hl h]
  | some q =>
    have := findNow_sound hd hk w es l 0 r hl h q hq
    rw [this]
    rfl

/-! the searches of the abstract machine, by place -/
theorem findA_pos {kt : TypeId} {k : AV} : ∀ {es : List (AV × AV × Nat)} {r : Option AV}, findA P kt k es = some r → ∃ p, posA P kt k es = some p ∧ (match p, r with | none, none => True | some j, some v => ∃ e, es[j]? = some e ∧ e.2.1 = v | _, _ => False)
  | [], r, h => by cases h; exact ⟨none, rfl, trivial⟩
  | (k', v', b) :: es, r, h => by
    simp only [findA] at h
    split at h
    · rename_i he
      cases h
      exact ⟨some 0, by simp only [posA, he], (k', v', b), rfl, rfl⟩
    · rename_i he
      obtain ⟨p, h1, h2⟩ := findA_pos h
      cases p with
      | none =>
        cases r with
        | none => exact ⟨none, by simp only [posA, he, h1], trivial⟩
        | some v => cases h2
      | some j =>
        cases r with
        | none => cases h2
        | some v =>
          obtain ⟨e, k1, k2⟩ := h2
          exact ⟨some (j + 1), by simp only [posA, he, h1], e, by simpa using k1, k2⟩
    · cases h

theorem plainKey_sound : ∀ (d : Nat) (t : TypeId) (k : AV), plainKey P d t k = true → ∀ (σ : Own) (k' : Value), VR σ k k' → ∀ (D : Nat), d ≤ D → ∀ (em : Bool) (w : World), (Instr.checkKey em D t k').run P w = .ok () w := by
  intro d
  induction d with
  | zero => intro t k h; simp [plainKey] at h
  | succ d ih =>
    intro t k h σ k' hk D hD em w
    obtain ⟨D, rfl⟩ : ∃ D', D = D' + 1 := ⟨D - 1, by omega⟩
    simp only [plainKey] at h
    split at h
    · cases h
    · rename_i len e cs hu
      split at h
      · rename_i n hn
        obtain ⟨ys, rfl, hl⟩ := hk.agg_inv
        simp only [Instr.checkKey, Sem.run_bind, run_underlying hu, Result.andThen_ok]
        simp only [Std.Legacy.Range.forIn_eq_forIn_range', Std.Legacy.Range.size, Nat.sub_zero, Nat.add_one_sub_one, Nat.div_one, ← List.range_eq_range']
        rw [List.all_eq_true] at h
        revert h
        generalize List.range len = l
        intro h
        have : (forIn (m := Sem) l PUnit.unit fun i _ => do
            let a ← sizeOf e
            let b ← part e ys (i * a)
            Instr.checkKey em D e b
            pure (ForInStep.yield PUnit.unit)).run P w = .ok PUnit.unit w := by
          induction l with
          | nil => rfl
          | cons i l ihl =>
            have hi := h i List.mem_cons_self
            split at hi
            · rename_i x hx
              obtain ⟨u, h1, h2⟩ := partA_sound (P := P) (w := w) hl hx
              simp only [List.forIn_cons, Sem.run_bind, run_sizeOf' e w n hn, Result.andThen_ok, h1, ih e x hi σ u h2 D (by omega) em w, Sem.run_pure]
              exact ihl fun j hj => h j (List.mem_cons_of_mem _ hj)
            · cases hi
        rw [this]
        rfl
      · cases h
    · rename_i fs cs hu
      obtain ⟨ys, rfl, hl⟩ := hk.agg_inv
      simp only [Instr.checkKey, Sem.run_bind, run_underlying hu, Result.andThen_ok]
      rw [← Array.forIn_toList]
      rw [List.all_eq_true] at h
      revert h
      generalize fs.toList = l
      intro h
      have : (forIn (m := Sem) l PUnit.unit fun f _ =>
          if f.name ≠ "_" then do
            let b ← part f.type ys f.offset
            Instr.checkKey em D f.type b
            pure (ForInStep.yield PUnit.unit)
          else pure (ForInStep.yield PUnit.unit)).run P w = .ok PUnit.unit w := by
        induction l with
        | nil => rfl
        | cons f l ihl =>
          have hf := h f List.mem_cons_self
          simp only [List.forIn_cons, Sem.run_bind, Sem.run_ite]
          by_cases hn : f.name = "_"
          · simp only [hn, ne_eq, not_true_eq_false, if_false, Sem.run_pure, Result.andThen_ok]
            exact ihl fun j hj => h j (List.mem_cons_of_mem _ hj)
          · simp only [ne_eq, hn, not_false_eq_true, if_true]
            have hf' := (Bool.or_eq_true _ _ ▸ hf).resolve_left (fun e => hn (by simpa using e))
            split at hf'
            · rename_i x hx
              obtain ⟨u, h1, h2⟩ := partA_sound (P := P) (w := w) hl hx
              simp only [h1, Result.andThen_ok, ih f.type x hf' σ u h2 D (by omega) em w, Sem.run_pure]
              exact ihl fun j hj => h j (List.mem_cons_of_mem _ hj)
            · cases hf'
      rw [this]
      rfl
    · cases h
    · cases h
    · rename_i d0 hi ha hs hu _ _
      simp only [Instr.checkKey, Sem.run_bind, run_underlying hu, Result.andThen_ok]
      cases d0 <;> first
        | rfl
        | (exact absurd rfl (hi _))
        | (exact absurd rfl (ha _ _))
        | (exact absurd rfl (hs _))
    · cases h
end Go.AM
namespace Go.AM
open Go
variable {P : Program}

theorem map_at {σ : Own} {H : AH} {w : World} (h : SimR σ H w) {id : Nat} {es : List (AV × AV × Nat)} {clock : Nat} (hg : H.get id = some (.map es clock)) {b : Nat} {r : Own1} (hr : σ b = some r) (hid : r.id = id) :
    ∃ l : Array MapEntry, w.heap[b]? = some (.map l clock) ∧ EL σ es l.toList := by
  obtain ⟨o, h2, h3⟩ := h.blk b r _ hr (by rw [hid]; exact hg)
  obtain ⟨l, rfl, k1, k2⟩ := h3
  exact ⟨l, h2, by simpa using k1, fun i e he => by simpa using k2 i e he⟩

theorem run_getObj_at {w : World} {b : Nat} {o : Obj} (h : w.heap[b]? = some o) (hc : ∀ c e f, o ≠ .cells c e f) : (getObj b).run P w = .ok o w := by
  cases o <;> first | (exact absurd rfl (hc _ _ _)) | simp [getObj, Sem.run, h]
theorem run_setObj_at {w : World} {b : Nat} {o : Obj} (o' : Obj) (h : w.heap[b]? = some o) (hc : ∀ c e f, o ≠ .cells c e f) : (setObj b o').run P w = .ok () { w with heap := w.heap.setIfInBounds b o' } := by
  cases o <;> first | (exact absurd rfl (hc _ _ _)) | simp [setObj, Sem.run, h]

theorem keyOk_shape {kt : TypeId} {k : AV} (h : keyOk P kt k = true) : ∃ d, P.underlying kt = some d := by
  cases e : P.underlying kt with
  | none => simp [keyOk, plainKey, e] at h
  | some d => exact ⟨d, rfl⟩

theorem lookup_core {σ : Own} {w : World} {kt e : TypeId} {k v : AV} {es : List (AV × AV × Nat)} {ok : Bool} (hk : keyOk P kt k = true)
    (h : (match findA P kt k es with
      | some (some v) => some (bif ok then .tup [v, .bool true] else v)
      | some none => (match zeroVal P e with | some z => some (bif ok then .tup [z, .bool false] else z) | none => none)
      | none => none) = some v) {k' : Value} (hv : VR σ k k') {l : Array MapEntry} (hl : EL σ es l.toList) :
    ∃ x b, (Instr.checkKey l.isEmpty 10000 kt k').run P w = .ok () w ∧
      ((∃ j, (Instr.findKey kt k' l.toList).run P w = .ok (some (j, x)) w ∧ b = true) ∨ ((Instr.findKey kt k' l.toList).run P w = .ok none w ∧ (zeroValue e).run P w = .ok x w ∧ b = false)) ∧
      VR σ v (if ok then .tuple #[x, .bool b] else x) := by
  have hck := plainKey_sound (P := P) 20 kt k hk σ k' hv 10000 (by omega) l.isEmpty w
  obtain ⟨d, hd⟩ := keyOk_shape hk
  split at h
  · rename_i v0 hf
    cases h
    obtain ⟨p, q1, q2⟩ := findA_pos hf
    cases p with
    | none => cases q2
    | some j =>
      obtain ⟨e0, q3, q4⟩ := q2
      obtain ⟨x, q5, q6⟩ := hl.2 j e0 q3
      have hfk := findKey_sound hd hv w hl q1
      simp only [ansOf, q5, Option.map_some] at hfk
      have hv : VR σ v0 x.val := by rw [← q4]; exact q6.val
      refine ⟨x.val, true, hck, .inl ⟨_, hfk, rfl⟩, ?_⟩
      cases ok
      · exact hv
      · exact .tup' (LR.cons hv (LR.cons (.bool true) (LR.nil σ)))
  · rename_i hf
    obtain ⟨p, q1, q2⟩ := findA_pos hf
    cases p with
    | some j => cases q2
    | none =>
      have hfk := findKey_sound hd hv w hl q1
      split at h
      · rename_i z hz
        cases h
        obtain ⟨z', h1, rfl⟩ := zeroVal_some hz
        refine ⟨z', false, hck, .inr ⟨hfk, h1 w, rfl⟩, ?_⟩
        cases ok
        · exact ofValue_VR σ z'
        · exact .tup' (LR.cons (ofValue_VR σ z') (LR.cons (.bool false) (LR.nil σ)))
      · cases h
  · cases h

theorem lookup_sound {σ : Own} {H : AH} {w : World} (hs : SimR σ H w) {t : TypeId} {m k v : AV} {ok : Bool} (h : lookupA P H t m k ok = some v) {m' k' : Value} (hm : VR σ m m') (hk : VR σ k k') : Yes P σ w (Instr.lookup t m' k' ok) v := by
  unfold lookupA at h
  split at h
  · rename_i kt e hu
    cases m with
    | nilm =>
      simp only at h
      cases hko : keyOk P kt k
      · rw [hko] at h; cases h
      · rw [hko] at h
        cases hm
        obtain ⟨x, b, h1, h2, h3⟩ := lookup_core (w := w) (es := []) hko h hk (l := #[]) ⟨rfl, fun i e he => by simp at he⟩
        refine ⟨_, ?_, h3⟩
        rcases h2 with ⟨j, h2, rfl⟩ | ⟨h2, hz, rfl⟩
        · simp only [Instr.lookup, Sem.run_bind, run_underlying hu, Result.andThen_ok, Sem.run_pure, h1, h2]
        · simp only [Instr.lookup, Sem.run_bind, run_underlying hu, Result.andThen_ok, Sem.run_pure, h1, h2, hz]
    | map id =>
      simp only at h
      cases hg : H.get id with
      | none => rw [hg] at h; cases h
      | some kb =>
        rw [hg] at h
        cases kb with
        | map es clock =>
          simp only at h
          cases hko : keyOk P kt k
          · rw [hko] at h; cases h
          · rw [hko] at h
            cases hm with | map _ b0 r r1 r2 =>
            obtain ⟨l, g1, g2⟩ := map_at hs hg r1 r2
            obtain ⟨x, b, h1, h2, h3⟩ := lookup_core (w := w) hko h hk g2
            refine ⟨_, ?_, h3⟩
            have hobj := run_getObj_at (P := P) g1 (by simp)
            rcases h2 with ⟨j, h2, rfl⟩ | ⟨h2, hz, rfl⟩
            · simp only [Instr.lookup, Sem.run_bind, run_underlying hu, Result.andThen_ok, Sem.run_pure, hobj, h1, h2]
            · simp only [Instr.lookup, Sem.run_bind, run_underlying hu, Result.andThen_ok, Sem.run_pure, hobj, h1, h2, hz]
        | _ => cases h
    | _ => cases h
  · cases h

theorem bytesA_sound {σ : Own} (w : World) : ∀ (l : List AV) (s : List Nat) (ys : List Value) (acc : ByteArray), bytesA l = some s → LR σ l ys →
    ∃ b : ByteArray, (forIn (m := Sem) ys acc fun c s => (match c with
      | .int .u8 n => pure (ForInStep.yield (s.push (UInt8.ofNat n.toNat)))
      | _ => do
        stuck "bytesToString: byte expected"
        pure (ForInStep.yield s) : Sem (ForInStep ByteArray))).run P w = .ok b w ∧ bytesOf b = bytesOf acc ++ s
  | [], s, ys, acc, h, hl => by
    cases h; rw [hl.unnil]; exact ⟨acc, rfl, by simp⟩
  | x :: l, s, ys, acc, h, hl => by
    obtain ⟨y, ys', rfl, hy, hys⟩ := hl.uncons
    cases x with
    | int k n =>
      cases k <;> cases n <;> first
        | (simp [bytesA] at h; done)
        | (rename_i n
           simp only [bytesA] at h
           obtain ⟨hb, h⟩ := bif_some h
           have hb' : n < 256 := by simpa [Nat.blt_eq] using hb
           split at h
           · rename_i r hr
             cases h
             cases hy
             obtain ⟨b, h1, h2⟩ := bytesA_sound w l r ys' (acc.push (UInt8.ofNat (Int.ofNat n).toNat)) hr hys
             refine ⟨b, ?_, ?_⟩
             · simp only [List.forIn_cons, Sem.run_bind, Sem.run_pure, Result.andThen_ok]
               exact h1
             · rw [h2]
               simp only [bytesOf, ByteArray.data_push, Array.toList_push, List.map_append, List.map_cons, List.map_nil, List.append_assoc, List.singleton_append]
               congr 2
               simp
               omega
           · cases h)
    | _ => simp [bytesA] at h

theorem cells_blk {σ : Own} {H : AH} {w : World} (h : SimR σ H w) {id : Nat} {cs : List AV} {e : TypeId} {ver fz : Nat} (hg : H.get id = some (.cells cs e ver fz)) {b : Nat} {r : Own1} (hr : σ b = some r) (hid : r.id = id) :
    ∃ (c : Array Value) (fr : Nat × Nat), w.heap[b]? = some (.cells c e fr) ∧ c.size = r.csz ∧ r.m ≤ r.csz ∧ r.m ≤ cs.length := by
  obtain ⟨o, h2, h3⟩ := h.blk b r _ hr (by rw [hid]; exact hg)
  obtain ⟨c, fr, rfl, c1, c2, c3, _, _⟩ := h3
  exact ⟨c, fr, h2, c1, c3, c2⟩

theorem run_viewAt_cells {w : World} {b : Nat} {c : Array Value} {e : TypeId} {fr : Nat × Nat} (h : w.heap[b]? = some (.cells c e fr)) : (viewAt b).run P w = .ok none w := by
  simp [viewAt, World.shape?, h]
theorem run_seenAt_cells {w : World} {b off : Nat} {c : Array Value} {e : TypeId} {fr : Nat × Nat} (h : w.heap[b]? = some (.cells c e fr)) : (Conv.seenAt ⟨b, off, none⟩).run P w = .ok ⟨b, off, none⟩ w := by
  simp [Conv.seenAt, run_viewAt_cells h]
theorem run_cellsIn_cells {w : World} {b : Nat} {c : Array Value} {e : TypeId} {fr : Nat × Nat} (h : w.heap[b]? = some (.cells c e fr)) : (cellsIn b).run P w = .ok (some c.size) w := by
  simp [cellsIn, World.shape?, h]

theorem sizeT_cellsOf {t : TypeId} {n : Nat} (h : sizeT P t = some n) : P.cellsOf t = n := by
  obtain ⟨i, hi, rfl⟩ := sizeT_some h
  simp [Program.cellsOf, hi]

theorem variablesAt_head {w : World} {b : Nat} {c : Array Value} {e u : TypeId} {fr : Nat × Nat} {n k : Nat} (h : w.heap[b]? = some (.cells c e fr)) (off : Nat) (hn : sizeT P e = some n) (h0 : 0 < n) (hm : off % n = 0) (hc : off / n + k ≤ c.size / n) (hu : P.underlyingId e = P.underlyingId u) :
    (variablesAt ⟨b, off, none⟩ u k).run P w = .ok true w := by
  have hs := sizeT_cellsOf hn
  have hd : P.depth = (2 * (P.types.size + Made.depth) + 1) + 1 := rfl
  have hlies : liesAt P P.depth e (c.size / P.cellsOf e) off u k = true := by
    rw [hs, hd]
    generalize 2 * (P.types.size + Made.depth) + 1 = d
    unfold liesAt
    rw [Bool.or_eq_true]
    left
    rw [show P.depth = (2 * (P.types.size + Made.depth) + 1) + 1 from rfl]
    generalize 2 * (P.types.size + Made.depth) + 1 = d'
    unfold rowAt
    rw [hs]
    simp only [Nat.ne_of_gt h0, if_false, Bool.or_eq_true, Bool.and_eq_true, decide_eq_true_eq, beq_iff_eq]
    left
    refine ⟨⟨hm, hc⟩, ?_⟩
    unfold sameLayout
    simp [hu]
  simp only [variablesAt, Sem.run_bind, run_program, Result.andThen_ok, run_shape, World.shape?, h]
  rw [hlies]
  rfl

theorem convert_sound {σ : Own} {H : AH} {w : World} (hs : SimR σ H w) {src dst : TypeId} {x v : AV} (h : convertA P H src dst x = some v) {x' : Value} (hx : VR σ x x') : Yes P σ w (Go.convert src dst x') v := by
  unfold convertA at h
  split at h
  · rename_i d k k0 n hu1 hd
    cases h
    cases hx
    exact ⟨_, by simp [Go.convert, run_underlying hu1, run_underlying hd, Conv.intToInt], .int _ _⟩
  · rename_i s hu1 hd
    cases h
    cases hx with | str _ b hb => exact ⟨.string b, by simp [Go.convert, run_underlying hu1, run_underlying hd], .str _ _ hb⟩
  · rename_i e hu1 hd
    split at h
    · rename_i he
      cases h; cases hx
      exact ⟨.string .empty, by simp [Go.convert, run_underlying hu1, run_underlying hd, run_underlying he, Conv.bytesToString], .str _ _ rfl⟩
    · cases h
  · rename_i e id off len cap esz hu1 hd
    split at h
    · rename_i he hz
      split at h
      · rename_i l hl
        split at h
        · rename_i s hsb
          cases h
          have hz' : esz = 1 := by simpa using hz
          subst hz'
          cases hx with | slc _ _ _ _ _ b cap' r r1 r2 r3 r4 r5 r6 =>
          obtain ⟨ys, k1, k2⟩ := run_loadCells_at (P := P) hs hl r1 r2 (by omega)
          obtain ⟨bb, k3, k4⟩ := bytesA_sound (P := P) w l s ys.toList .empty hsb k2
          refine ⟨.string bb, ?_, .str _ _ (by rw [k4]; rfl)⟩
          simp only [Go.convert, Sem.run_bind, run_underlying hu1, run_underlying hd, Result.andThen_ok, run_underlying he, Conv.bytesToString, k1]
          rw [← Array.forIn_toList]
          exact congrArg (fun r => r.andThen fun a w' => Sem.run P (pure (Value.string a)) w') k3
        · cases h
      · cases h
    · cases h
  · rename_i t id off lim hu1 hd
    split at h
    · rename_i cs e ver fz n hg hn
      obtain ⟨hb, h⟩ := bif_some h
      cases h
      simp only [Bool.and_eq_true, Nat.blt_eq] at hb
      cases hx with | ptr _ _ _ b r r1 r2 r3 =>
      obtain ⟨c, fr, k1, k2, k3, k4⟩ := cells_blk hs hg r1 r2
      refine ⟨.pointer (some ⟨b, off, none⟩), ?_, .ptr _ _ _ _ r r1 r2 r3⟩
      have hnot : ¬ (n = 0) := by omega
      have hoff : ¬ (off ≥ c.size) := by omega
      simp only [Go.convert, Sem.run_bind, run_underlying hu1, run_underlying hd, Result.andThen_ok, Conv.unsafePointer, run_seenAt_cells k1, run_cellsIn_cells k1, run_sizeOf' t w n hn]
      simp [hnot, hoff]
    · cases h
  · rename_i u id off lim hu1 hd
    split at h
    · rename_i cs e ver fz hg
      split at h
      · rename_i n nu hn hnu
        obtain ⟨hb, h⟩ := bif_some h
        cases h
        simp only [Bool.and_eq_true, Nat.blt_eq, Nat.beq_eq, Nat.ble_eq] at hb
        obtain ⟨⟨⟨rfl, h2⟩, h3⟩, h4⟩ := hb
        cases hx with | ptr _ _ _ b r r1 r2 r3 =>
        obtain ⟨c, fr, k1, k2, k3, k4⟩ := cells_blk hs hg r1 r2
        refine ⟨.pointer (some ⟨b, 0, none⟩), ?_, .ptr _ _ _ _ r r1 r2 r3⟩
        have hv := variablesAt_head (P := P) (k := 1) k1 0 hn h3 (Nat.zero_mod _) (by
          have : 1 ≤ c.size / n := (Nat.le_div_iff_mul_le h3).2 (by omega)
          simpa using this) h4
        simp only [Go.convert, Sem.run_bind, run_underlying hu1, run_underlying hd, Result.andThen_ok, Conv.unsafePointer, run_seenAt_cells k1, run_sizeOf' u w nu hnu, hv]
        simp
      · cases h
    · cases h
  · cases h

theorem opLoad_sound {σ : Own} {H : AH} {w : World} (hs : SimR σ H w) {t : TypeId} {x v : AV} (h : opLoad P H t x = some v) {x' : Value} (hx : VR σ x x') : ∃ a, x' = .pointer (some a) ∧ Yes P σ w (loadVar t a) v := by
  unfold opLoad at h
  split at h
  · cases hx with | ptr _ _ _ b r r1 r2 r3 =>
    exact ⟨_, rfl, loadV_sound hs h r1 r2 r3⟩
  · cases h

theorem entry_sound {σ : Own} {H : AH} {w : World} (hs : SimR σ H w) {x v : AV} (h : entryA H x = some v) {x' : Value} (hx : VR σ x x') : Yes P σ w (Instr.entry x') v := by
  unfold entryA at h
  split at h
  · rename_i r0 lim
    split at h
    · rename_i m since seen stepped hg
      split at h
      · rename_i b0 es clock hb hm
        obtain ⟨hc, h⟩ := bif_some h
        split at h
        · rename_i e he
          cases h
          cases hx with | ptr _ _ _ b r r1 r2 r3 =>
          obtain ⟨o, g2, g3⟩ := hs.blk b r _ r1 (by rw [r2]; exact hg)
          obtain ⟨m', rfl, bm, rm, rfl, q1, q2⟩ := g3
          obtain ⟨l, l1, l2⟩ := map_at hs hm q1 q2
          have hcl : clock = stepped := by simpa using hc
          subst hcl
          have hfind : ∀ (es : List (AV × AV × Nat)) (l : List MapEntry), EL σ es l → es.find? (fun e => Nat.beq e.2.2 b0) = some e → ∃ y, l.find? (·.born == b0) = some y ∧ ER σ e y := by
            intro es
            induction es with
            | nil => intro l _ he; simp at he
            | cons z es ih =>
              intro l hl he
              obtain ⟨y, l', rfl, hy, hl'⟩ := hl.uncons
              rw [List.find?_cons] at he
              by_cases hz : Nat.beq z.2.2 b0 = true
              · rw [hz] at he
                cases he
                exact ⟨y, by rw [List.find?_cons, show (y.born == b0) = true by rw [hy.born]; simpa using hz], hy⟩
              · rw [show Nat.beq z.2.2 b0 = false from Bool.eq_false_iff.2 hz] at he
                obtain ⟨u, u1, u2⟩ := ih l' hl' he
                exact ⟨u, by rw [List.find?_cons, show (y.born == b0) = false by rw [hy.born]; simpa using hz]; exact u1, u2⟩
          obtain ⟨y, y1, y2⟩ := hfind es l.toList l2 he
          refine ⟨.tuple #[y.key, y.val], ?_, .tup' (LR.cons y2.key (LR.cons y2.val (LR.nil σ)))⟩
          have hback : (seen.toArray).back? = some b0 := by rw [List.back?_toArray]; exact hb
          have hfa : l.find? (·.born == b0) = some y := by rw [← Array.find?_toList]; exact y1
          simp only [Instr.entry, Sem.run_bind, run_getObj_at g2 (by simp), Result.andThen_ok, hback, run_getObj_at l1 (by simp)]
          simp [hfa]
        · cases h
      · cases h
    · cases h
  · cases h

theorem len_sound {σ : Own} {H : AH} {w : World} (hs : SimR σ H w) {t : TypeId} {x v : AV} (h : lenA P H t x = some v) {x' : Value} (hx : VR σ x x') {ts : Array TypeId} (hts : ts[0]? = some t) (ty : TypeId) :
    Yes P σ w (Builtin.len_ ts ty #[x']) v := by
  have h0 : (#[x'] : Array Value)[0]? = some x' := rfl
  unfold lenA at h
  split at h
  · rename_i s hu
    cases h
    cases hx with | str _ b hb =>
    subst hb
    exact ⟨_, by simp [Builtin.len_, hts, run_underlying hu, goInt, bytes_size], .int _ _⟩
  · rename_i e hu
    cases h; cases hx
    exact ⟨_, by simp [Builtin.len_, hts, run_underlying hu, goInt], .int _ _⟩
  · rename_i e id off n cap esz hu
    cases h; cases hx
    exact ⟨_, by simp [Builtin.len_, hts, run_underlying hu, goInt], .int _ _⟩
  · rename_i n e hu
    cases h
    exact ⟨_, by simp [Builtin.len_, hts, run_underlying hu, goInt], .int _ _⟩
  · rename_i k e hu
    cases h; cases hx
    exact ⟨_, by simp [Builtin.len_, hts, run_underlying hu, goInt], .int _ _⟩
  · rename_i k e id hu
    split at h
    · rename_i es clock hg
      cases h
      cases hx with | map _ b r r1 r2 =>
      obtain ⟨l, l1, l2⟩ := map_at hs hg r1 r2
      refine ⟨_, ?_, .int _ _⟩
      have hlen : es.length = l.size := by simpa using l2.1
      simp only [Builtin.len_, hts, h0, Sem.run_bind, run_underlying hu, Result.andThen_ok, run_getObj_at l1 (by simp), Sem.run_pure, goInt, hlen]
      rfl
    · cases h
  · cases h

/-- THE READING OPERATIONS. -/
theorem read_sound {C : Cfg} {σ : Own} {H : AH} {w : World} (hs : SimR σ H w) {ρA : Operand → AV} {ρ : Operand → Value} (hρ : ∀ x, VR σ (ρA x) (ρ x)) {o : Oper} (hcl : clsOf o.op = .read) {v : AV} (h : readA C ρA H o.op = some v) :
    ∃ y, (execOp ρ o).run C.P w = .ok (.value y) w ∧ VR σ v y := by
  unfold execOp
  unfold readA at h
  have lift : ∀ (s : Sem Value), Yes C.P σ w s v → ∃ y, (do pure (.value (← s)) : Sem Next).run C.P w = .ok (.value y) w ∧ VR σ v y := fun s ⟨y, h1, h2⟩ => ⟨y, by simp [h1], h2⟩
  split at h
  all_goals (rename_i hop)
  all_goals (try (simp only [hop]))
  · refine lift _ ?_
    obtain ⟨a, ha, hy⟩ := opLoad_sound (P := C.P) hs h (hρ _)
    rw [ha]
    obtain ⟨u, h1, h2⟩ := hy
    exact ⟨u, by simp [Instr.loadAt, Instr.sureAddr, h1], h2⟩
  · exact lift _ (lookup_sound hs h (hρ _) (hρ _))
  · exact lift _ (convert_sound hs h (hρ _))
  · exact lift _ (entry_sound hs h (hρ _))
  · rename_i c
    split at h
    · rename_i t x ht hx
      rw [hop] at hcl
      obtain ⟨callee, args, ts⟩ := c
      simp only at ht hx
      cases callee with
      | builtin b =>
        cases b <;> first
          | (simp [clsOf] at hcl; done)
          | (have hargs : args = #[x] := by cases args; simp_all
             subst hargs
             obtain ⟨u, h1, h2⟩ := len_sound (P := C.P) hs h (hρ x) ht o.type
             refine ⟨u, ?_, h2⟩
             simp only [resolve, Sem.run_bind, Sem.run_pure, Result.andThen_ok, invoke, builtin, List.map_toArray, List.map_cons, List.map_nil, h1])
      | value f => simp [clsOf] at hcl
      | invoke r n => simp [clsOf] at hcl
    · cases h
  · cases h
end Go.AM
namespace Go.AM
open Go
variable {G : Gh}
variable {P : Program}

theorem listEq_of {a b : List Nat} (h : listEq a b = true) : a = b := by rw [listEq_eq] at h; simpa using h

mutual
theorem avEq_of : ∀ (a b : AV), avEq a b = true → a = b
  | .bool a, .bool b, h => by simp [avEq] at h; rw [h]
  | .int k a, .int l b, h => by
    simp only [avEq, Bool.and_eq_true] at h
    have e : k = l := kindEq_eq h.1
    have := h.2; rw [intEq_eq] at this; rw [e, show a = b by simpa using this]
  | .flt .f64 a, .flt .f64 b, h => by simp only [avEq, Nat.beq_eq] at h; rw [h]
  | .str a, .str b, h => by
    simp only [avEq] at h
    have e := listEq_of h
    rw [e]
  | .nilp, .nilp, _ => rfl
  | .nils, .nils, _ => rfl
  | .nilm, .nilm, _ => rfl
  | .nilf, .nilf, _ => rfl
  | .nili, .nili, _ => rfl
  | .ptr a b c, .ptr x y z, h => by
    simp only [avEq, Bool.and_eq_true, Nat.beq_eq] at h
    rw [h.1.1, h.1.2, h.2]
  | .slc a b c d e, .slc v w x y z, h => by
    simp only [avEq, Bool.and_eq_true, Nat.beq_eq] at h
    obtain ⟨⟨⟨⟨h1, h2⟩, h3⟩, h4⟩, h5⟩ := h
    rw [h1, h2, h3, h4]
    cases d <;> cases y <;> simp_all
  | .map a, .map b, h => by simp only [avEq, Nat.beq_eq] at h; rw [h]
  | .fn (.func f) a b, .fn (.func g) c d, h => by
    simp only [avEq, Bool.and_eq_true, Nat.beq_eq] at h
    rw [h.1.1, avsEq_of a c h.1.2, avsEq_of b d h.2]
  | .ifc t v, .ifc u w, h => by
    simp only [avEq, Bool.and_eq_true, Nat.beq_eq] at h
    rw [h.1, avEq_of v w h.2]
  | .agg a, .agg b, h => by simp only [avEq] at h; rw [avsEq_of a b h]
  | .tup a, .tup b, h => by simp only [avEq] at h; rw [avsEq_of a b h]
theorem avsEq_of : ∀ (a b : List AV), avsEq a b = true → a = b
  | [], [], _ => rfl
  | x :: a, y :: b, h => by
    simp only [avsEq, Bool.and_eq_true] at h
    rw [avEq_of x y h.1, avsEq_of a b h.2]
end

theorem scalar_det {σ : Own} {x : AV} (h : scalarA x = true) {y z : Value} (hy : VR σ x y) (hz : VR σ x z) : y = z := by
  cases x <;> first
    | (simp [scalarA] at h; done)
    | (cases hy; cases hz; rfl)
    | (cases hy with | str _ a ha => cases hz with | str _ b hb => rw [bytes_inj (ha.trans hb.symm)])
theorem scalar_bits {σ : Own} {x : AV} (h : scalarA x = true) {y : Value} (hy : VR σ x y) (n : Nat) : Instr.sameBits n y y = true := by
  cases x <;> first
    | (simp [scalarA] at h; done)
    | (cases hy; cases n <;> simp [Instr.sameBits]; done)
    | (cases hy; cases n <;> (simp only [Instr.sameBits]; rw [beq_toListBytes]; simp))
theorem all_det {σ : Own} : ∀ (cs : List AV) (ys zs : List Value), cs.all scalarA = true → LR σ cs ys → LR σ cs zs → ys = zs
  | [], ys, zs, _, hy, hz => by rw [hy.unnil, hz.unnil]
  | c :: cs, ys, zs, h, hy, hz => by
    obtain ⟨y, ys', rfl, h1, h2⟩ := hy.uncons
    obtain ⟨z, zs', rfl, k1, k2⟩ := hz.uncons
    simp only [List.all_cons, Bool.and_eq_true] at h
    rw [scalar_det h.1 h1 k1, all_det cs ys' zs' h.2 h2 k2]
theorem all_bits {σ : Own} (n : Nat) : ∀ (cs : List AV) (ys : List Value), cs.all scalarA = true → LR σ cs ys → (ys.zip ys).all (fun p => Instr.sameBits n p.1 p.2) = true
  | [], ys, _, hy => by rw [hy.unnil]; rfl
  | c :: cs, ys, h, hy => by
    obtain ⟨y, ys', rfl, h1, h2⟩ := hy.uncons
    simp only [List.all_cons, Bool.and_eq_true] at h
    simp only [List.zip_cons_cons, List.all_cons, Bool.and_eq_true]
    exact ⟨scalar_bits h.1 h1 n, all_bits n cs ys' h.2 h2⟩
theorem data_det {σ : Own} {x : AV} (h : dataA x = true) {y z : Value} (hy : VR σ x y) (hz : VR σ x z) : y = z := by
  unfold dataA at h
  split at h
  · obtain ⟨ys, rfl, hl⟩ := hy.agg_inv
    obtain ⟨zs, rfl, hk⟩ := hz.agg_inv
    rw [Array.toList_inj.1 (all_det _ _ _ h hl hk)]
  · exact scalar_det h hy hz
theorem data_bits {σ : Own} {x : AV} (h : dataA x = true) {y : Value} (hy : VR σ x y) (n : Nat) : Instr.sameBits (n + 1) y y = true := by
  unfold dataA at h
  split at h
  · obtain ⟨ys, rfl, hl⟩ := hy.agg_inv
    have := all_bits n _ _ h hl
    simp only [Instr.sameBits, beq_self_eq_true, Bool.true_and]
    exact this
  · exact scalar_bits h hy _

theorem stays {σ : Own} {k : AV} (h : dataA k = true) {a b : Value} (ha : VR σ k a) (hb : VR σ k b) (w : World) : (Instr.keyThatStays a b).run P w = .ok a w := by
  have := data_det h ha hb
  subst this
  unfold Instr.keyThatStays
  rw [show (10000 : Nat) = 9999 + 1 from rfl, data_bits h ha 9999]
  rfl

theorem EL.append {σ : Own} {es : List (AV × AV × Nat)} {l : List MapEntry} (h : EL σ es l) {e : AV × AV × Nat} {x : MapEntry} (hx : ER σ e x) : EL σ (es ++ [e]) (l ++ [x]) := by
  refine ⟨by simp [h.1], fun i z hz => ?_⟩
  by_cases hi : i < es.length
  · rw [List.getElem?_append_left hi] at hz
    obtain ⟨y, k1, k2⟩ := h.2 i z hz
    exact ⟨y, by rw [List.getElem?_append_left (by rw [← h.1]; exact hi)]; exact k1, k2⟩
  · rw [List.getElem?_append_right (by omega)] at hz
    have : i - es.length = 0 := by
      have := (List.getElem?_eq_some_iff.1 hz).1
      simp at this; omega
    rw [this] at hz
    simp at hz; subst hz
    exact ⟨x, by rw [List.getElem?_append_right (by rw [← h.1]; omega), ← h.1, this]; rfl, hx⟩

/-- An update that finds its key. -/
theorem upd_found {σ : Own} {kt : TypeId} {k v : AV} {k' v' : Value} (hk : VR σ k k') (hv : VR σ v v') : ∀ {es : List (AV × AV × Nat)} {r : Option (List (AV × AV × Nat))}, updA P kt k v es = some r → ∀ {l : List MapEntry}, EL σ es l →
    match r with
    | none => posA P kt k es = some none
    | some es' => ∃ j x, posA P kt k es = some (some j) ∧ l[j]? = some x ∧ VR σ k x.key ∧ dataA k = true ∧ EL σ es' (l.modify j fun e => { e with key := x.key, val := v' })
  | [], r, h, l, hl => by cases h; rfl
  | (k0, v0, b0) :: es, r, h, l, hl => by
    obtain ⟨x, l', rfl, hx, hl'⟩ := hl.uncons
    simp only [updA] at h
    split at h
    · rename_i he
      obtain ⟨hc, h⟩ := bif_some h
      cases h
      simp only [Bool.and_eq_true] at hc
      have := avEq_of _ _ hc.1
      subst this
      refine ⟨0, x, by simp only [posA, he], rfl, hx.key, hc.2, ?_⟩
      refine ⟨by simp [hl'.1], fun i z hz => ?_⟩
      cases i with
      | zero => simp at hz; subst hz; exact ⟨_, rfl, hx.key, hv, hx.born⟩
      | succ i => simp at hz; obtain ⟨y, k1, k2⟩ := hl'.2 i z hz; exact ⟨y, by simpa using k1, k2⟩
    · rename_i he
      split at h
      · rename_i es' hes
        cases h
        obtain ⟨j, y, q1, q2, q3, q4, q5⟩ := upd_found hk hv hes hl'
        refine ⟨j + 1, y, by simp only [posA, he, q1], by simpa using q2, q3, q4, ?_⟩
        refine ⟨by simp [q5.1], fun i z hz => ?_⟩
        cases i with
        | zero => simp at hz; subst hz; exact ⟨x, by simp, hx⟩
        | succ i => simp at hz; obtain ⟨u, k1, k2⟩ := q5.2 i z hz; exact ⟨u, by simpa using k1, k2⟩
      · rename_i hes
        cases h
        have := upd_found hk hv hes hl'
        simp only at this ⊢
        simp only [posA, he, this]
      · cases h
    · cases h

theorem born_found {σ : Own} {kt : TypeId} {k : AV} : ∀ {es : List (AV × AV × Nat)} {r : Option (AV × Nat)}, bornA P kt k es = some r → ∀ {l : List MapEntry}, EL σ es l →
    match r with
    | none => posA P kt k es = some none
    | some (v, b) => ∃ j x, posA P kt k es = some (some j) ∧ l[j]? = some x ∧ VR σ k x.key ∧ dataA k = true ∧ VR σ v x.val ∧ x.born = b
  | [], r, h, l, hl => by cases h; rfl
  | (k0, v0, b0) :: es, r, h, l, hl => by
    obtain ⟨x, l', rfl, hx, hl'⟩ := hl.uncons
    simp only [bornA] at h
    split at h
    · rename_i he
      obtain ⟨hc, h⟩ := bif_some h
      cases h
      simp only [Bool.and_eq_true] at hc
      have := avEq_of _ _ hc.1
      subst this
      exact ⟨0, x, by simp only [posA, he], rfl, hx.key, hc.2, hx.val, hx.born⟩
    · rename_i he
      have := born_found h hl'
      cases r with
      | none => simp only at this ⊢; simp only [posA, he, this]
      | some vb =>
        obtain ⟨j, y, q1, q2, q3, q4, q5, q6⟩ := this
        exact ⟨j + 1, y, by simp only [posA, he, q1], by simpa using q2, q3, q4, q5, q6⟩
    · cases h

/-- A store of an operation. -/
def Done (G : Gh) (P : Program) (σ : Own) (w : World) {α : Type} (s : Sem α) (a : α) (H' : AH) : Prop := ∃ w', s.run P w = .ok a w' ∧ Sim G σ H' w' ∧ Grw σ σ w w'

theorem EL.to {σ : Own} {es : List (AV × AV × Nat)} {l : Array MapEntry} (h : EL σ es l.toList) {clock : Nat} (r : Own1) : BR σ (.map es clock) r (.map l clock) :=
  ⟨l, rfl, by simpa using h.1, fun i e he => by simpa using h.2 i e he⟩

theorem mapUpdate_sound {σ : Own} {H H' : AH} {w : World} (hs : Sim G σ H w) {t : TypeId} {m k v : AV} (h : mapUpdateA P H t m k v = some H') {m' k' v' : Value} (hm : VR σ m m') (hk : VR σ k k') (hv : VR σ v v') :
    Done G P σ w (Instr.mapUpdate t m' k' v') () H' := by
  unfold mapUpdateA at h
  split at h
  · rename_i kt e id hu
    split at h
    · rename_i es clock hg hko
      cases hm with | map _ b r r1 r2 =>
      subst r2
      obtain ⟨l, l1, l2⟩ := map_at hs.toR hg r1 rfl
      have hck := plainKey_sound (P := P) 20 kt k hko σ k' hk 10000 (by omega) false w
      obtain ⟨d, hd⟩ := keyOk_shape hko
      split at h
      · rename_i es' hes
        cases h
        obtain ⟨j, x, q1, q2, q3, q4, q5⟩ := upd_found hk hv hes l2
        have hfk := findKey_sound hd hk w l2 q1
        simp only [ansOf, q2, Option.map_some, Nat.zero_add] at hfk
        have hst := stays (P := P) q4 q3 hk w
        have hj : l[j]? = some x := by simpa using q2
        obtain ⟨s1, s2⟩ := hs.turnObj r1 hg (fun _ _ => trivial) (.map es' clock) (.map (l.modify j fun e => { e with key := x.key, val := v' }) clock) (EL.to (by rw [Array.toList_modify]; exact q5) r)
        refine ⟨_, ?_, s1, s2⟩
        simp only [Instr.mapUpdate, Sem.run_bind, run_underlying hu, Result.andThen_ok, run_getObj_at l1 (by simp), hck, hfk, hj, Option.map_some, Option.getD_some, hst, run_setObj_at _ l1 (by simp)]
      · rename_i hes
        cases h
        have q1 := upd_found hk hv hes l2
        simp only at q1
        have hfk := findKey_sound hd hk w l2 q1
        simp only [ansOf] at hfk
        obtain ⟨s1, s2⟩ := hs.turnObj r1 hg (fun _ _ => trivial) (.map (es ++ [(k, v, clock)]) (clock + 1)) (.map (l.push { key := k', val := v', born := clock }) (clock + 1)) (EL.to (by rw [Array.toList_push]; exact l2.append ⟨hk, hv, rfl⟩) r)
        refine ⟨_, ?_, s1, s2⟩
        simp only [Instr.mapUpdate, Sem.run_bind, run_underlying hu, Result.andThen_ok, run_getObj_at l1 (by simp), hck, hfk, run_setObj_at _ l1 (by simp)]
      · cases h
    · cases h
  · cases h

theorem mapEntry_sound {σ : Own} {H H' : AH} {w : World} (hs : Sim G σ H w) {t : TypeId} {m k v : AV} (h : mapEntryA P H t m k = some (v, H')) {m' k' : Value} (hm : VR σ m m') (hk : VR σ k k') :
    ∃ y, VR σ v y ∧ Done G P σ w (Instr.mapEntry t m' k') y H' := by
  unfold mapEntryA at h
  split at h
  · rename_i kt e id hu
    split at h
    · rename_i es clock hg hko
      cases hm with | map _ b r r1 r2 =>
      subst r2
      obtain ⟨l, l1, l2⟩ := map_at hs.toR hg r1 rfl
      have hck := plainKey_sound (P := P) 20 kt k hko σ k' hk 10000 (by omega) false w
      obtain ⟨d, hd⟩ := keyOk_shape hko
      split at h
      · rename_i v0 b0 hes
        cases h
        obtain ⟨j, x, q1, q2, q3, q4, q5, q6⟩ := born_found hes l2
        have hfk := findKey_sound hd hk w l2 q1
        simp only [ansOf, q2, Option.map_some, Nat.zero_add] at hfk
        have hst := stays (P := P) q4 q3 hk w
        have hj : l[j]? = some x := by simpa using q2
        have hsame : (l.modify j fun e => { e with key := x.key }) = l := by
          apply Array.ext_getElem?
          intro i
          rw [Array.getElem?_modify]
          split
          · rename_i hij
            subst hij
            rw [hj]; rfl
          · rfl
        have hlt := hs.lt r1
        have hw : ({ w with heap := w.heap.setIfInBounds b (.map (l.modify j fun e => { e with key := x.key }) clock) } : World) = w := by
          rw [hsame]
          have : w.heap.setIfInBounds b (.map l clock) = w.heap := by
            apply Array.ext_getElem?
            intro i
            rw [Array.getElem?_setIfInBounds]
            split
            · rename_i hib; subst hib; rw [l1]
            · rfl
          rw [this]
        refine ⟨.tuple #[x.val, goInt b0], .tup' (LR.cons q5 (LR.cons (.int _ _) (LR.nil σ))), w, ?_, hs, Grw.refl σ w⟩
        simp only [Instr.mapEntry, Sem.run_bind, run_underlying hu, Result.andThen_ok, run_getObj_at l1 (by simp), hck, hfk, hj, Option.map_some, Option.getD_some, hst, run_setObj_at _ l1 (by simp), hw, Sem.run_pure, q6]
      · rename_i hes
        split at h
        · rename_i z hz
          cases h
          obtain ⟨z', z1, rfl⟩ := zeroVal_some hz
          have q1 := born_found hes l2
          simp only at q1
          have hfk := findKey_sound hd hk w l2 q1
          simp only [ansOf] at hfk
          obtain ⟨s1, s2⟩ := hs.turnObj r1 hg (fun _ _ => trivial) (.map (es ++ [(k, ofValue z', clock)]) (clock + 1)) (.map (l.push { key := k', val := z', born := clock }) (clock + 1)) (EL.to (by rw [Array.toList_push]; exact l2.append ⟨hk, ofValue_VR σ z', rfl⟩) r)
          refine ⟨.tuple #[z', goInt clock], .tup' (LR.cons (ofValue_VR σ z') (LR.cons (.int _ _) (LR.nil σ))), _, ?_, s1, s2⟩
          simp only [Instr.mapEntry, Sem.run_bind, run_underlying hu, Result.andThen_ok, run_getObj_at l1 (by simp), hck, hfk, z1, run_setObj_at _ l1 (by simp), Sem.run_pure]
        · cases h
      · cases h
    · cases h
  · cases h
end Go.AM
