/-
  The table of spaces in the world of a call; a run from the table alone is a run in every such world. By an AI agent.
-/
import Derived.Test.YtlbpfpffifppiaaGreatDoorAmA
import Derived.Test.YtlbpfpffifppiaaGreatDoorRows
import Derived.WalkKit
import Derived.ProofKit
import Derived.OpenShut
import Derived.Deep.DeepHandedRow
import Derived.Lib.LaidTab
namespace Go.AM
open Go Go.AM Go.Proofs Go.ChangeShapes Go.WideShapes Go.ChangeAt Go.RowKit

theorem laid_at {P : Program} {W : World} {name : String} {d : DataW Unit} : ∀ {l : List (String × DataW Unit)} {ps : List MemPlace}, DataW.LaidVars P W l ps → (name, d) ∈ l →
    ∃ g t cs fuel p, P.globalNamed name = some g ∧ (P.globals[g]?).map (·.type) = some t ∧ W.var? P name = some cs ∧ DataW.trod (fun _ => ()) P W 0 (fun _ => true) false fuel t cs.toList = some (d, p)
  | [], ps, _, h => by cases h
  | (n, d') :: r, ps, h, hm => by
    obtain ⟨g, t, cs, fuel, p, q, h1, h2, h3, h4, h5, _⟩ := h
    rcases List.mem_cons.1 hm with e | e
    · cases e
      exact ⟨g, t, cs, fuel, p, h1, h2, h3, h4⟩
    · exact laid_at h5 e

def spaceZ : List Int := (List.range 256).map fun i => if Nat.beq i 32 || (Nat.ble 9 i && Nat.ble i 13) then 1 else 0
theorem space_eq : space = spaceZ.map fun z => AV.int .u8 z := by kernel_rfl
theorem glob1 : Tryz.prog.globalNamed "strings.asciiSpace" = some 1 := by kernel_rfl
theorem type1 : (Tryz.prog.globals[1]?).map (·.type) = some 311 := by kernel_rfl
theorem und311 : (match Tryz.prog.underlying 311 with | some (.array n e) => Nat.beq n 256 && (match Tryz.prog.underlying e with | some (.int .u8) => true | _ => false) && Nat.beq (Tryz.prog.cellsOf e) 1 | _ => false) = true := by kernel_rfl
theorem cells311 : Tryz.prog.cellsOf 311 = 256 := by kernel_rfl
theorem row1 : ((((begin Tryz.prog (fun _ _ => 0) default).world.heap[1]?).bind Obj.row?).map (·.2)) = some 311 := by kernel_rfl
theorem globs : Nat.blt 1 Tryz.prog.globals.size = true := by kernel_rfl

/-- WHAT THE ROW's LIST GIVES: the table stands in its block. -/
theorem table_at {W : World} {l : List (String × DataW Unit)} (hl : laidMetH Tryz.prog l W) (hno : l.filter (fun x => x.2.handleName?.isSome) = []) {d : DataW Unit} (hd : d = Lib.tabData .u8 spaceZ) (hm : ("strings.asciiSpace", d) ∈ l) (hsh : W.ShapedOpen Tryz.prog) :
    ∃ cs, W.heap[1]? = some (.cells cs 311 (0, 0)) ∧ cs.toList = spaceZ.map fun z => Value.int .u8 z := by
  unfold laidMetH at hl
  rw [hno] at hl
  simp only at hl
  obtain ⟨ps, hv, _, _⟩ := hl
  obtain ⟨g, t, cs, fuel, p, h1, h2, h3, h4⟩ := laid_at hv hm
  rw [glob1] at h1
  cases h1
  rw [type1] at h2
  cases h2
  subst hd
  have hcs : cs.toList = spaceZ.map fun z => Value.int .u8 z := by
    have hu := und311
    split at hu
    · rename_i n e hun
      simp only [Bool.and_eq_true] at hu
      obtain ⟨⟨hn, he⟩, hc⟩ := hu
      split at he
      · rename_i hue
        have hn' : n = 256 := Nat.eq_of_beq_eq_true hn
        subst hn'
        exact Lib.cells_of_tab hun hue (Nat.eq_of_beq_eq_true hc) cells311 h4
      · cases he
    · cases hu
  obtain ⟨zero, hz⟩ : ∃ zero, ((begin Tryz.prog (fun _ _ => 0) default).world.heap[1]?).bind Obj.row? = some (zero, 311) := by
    have h := row1
    cases hr : ((begin Tryz.prog (fun _ _ => 0) default).world.heap[1]?).bind Obj.row? with
    | none => rw [hr] at h; cases h
    | some x =>
      rw [hr] at h
      obtain ⟨a, b⟩ := x
      simp only [Option.map_some, Option.some.injEq] at h
      subst h
      exact ⟨a, rfl⟩
  obtain ⟨cs', hw, _, _⟩ := hsh.1 1 zero 311 (by simp) hz
  refine ⟨cs', hw, ?_⟩
  unfold World.var? at h3
  rw [glob1] at h3
  simp only [Option.bind_some, hw, Option.some.injEq] at h3
  rw [h3]; exact hcs

theorem table_BR {σ : Own} {cs : Array Value} (h : cs.toList = spaceZ.map fun z => Value.int .u8 z) : BR σ (.cells space 311 0 0) ⟨1, 256, 256⟩ (.cells cs 311 (0, 0)) := by
  have hlen : spaceZ.length = 256 := by simp [spaceZ]
  have hsz : cs.size = 256 := by
    have := congrArg List.length h
    simp [hlen] at this
    exact this
  have hsl : space.length = 256 := by rw [space_eq]; simp [hlen]
  refine ⟨cs, (0, 0), rfl, hsz, by rw [hsl]; exact Nat.le_refl _, Nat.le_refl _, fun i x hi hx => ?_, .inl rfl, fun _ => rfl⟩
  rw [space_eq, List.getElem?_map] at hx
  cases hz : spaceZ[i]? with
  | none => rw [hz] at hx; cases hx
  | some z =>
    rw [hz] at hx
    cases hx
    have h1 : cs[i]? = some (.int .u8 z) := by
      have := congrArg (fun l => l[i]?) h
      simpa [hz] using this
    rw [Array.getD_eq_getD_getElem?, h1]
    exact .int _ _

/-- A block that is still the table is as it was. -/
theorem table_same {σ : Own} {r : Own1} {o : Obj} {cs : Array Value} (h : cs.toList = spaceZ.map fun z => Value.int .u8 z) (hm : 256 ≤ r.m) (hc : r.csz = 256) (hb : BR σ (.cells space 311 0 0) r o) : o = .cells cs 311 (0, 0) := by
  obtain ⟨c, fr, rfl, h1, h2, h3, h4, h5, h6⟩ := hb
  have hfr := h6 rfl
  subst hfr
  have hlen : spaceZ.length = 256 := by simp [spaceZ]
  have : c = cs := by
    apply Array.ext'
    rw [h]
    apply List.ext_getElem?
    intro i
    by_cases hi : i < 256
    · obtain ⟨z, hz⟩ : ∃ z, spaceZ[i]? = some z := ⟨_, List.getElem?_eq_getElem (by omega)⟩
      have hs : space[i]? = some (.int .u8 z) := by rw [space_eq, List.getElem?_map, hz]; rfl
      have hv := h4 i _ (by omega) hs
      have hci : i < c.size := by omega
      rw [Array.getD_eq_getD_getElem?, Array.getElem?_eq_getElem hci] at hv
      simp only [Option.getD_some] at hv
      rw [List.getElem?_map, hz, Array.getElem?_toList, Array.getElem?_eq_getElem hci]
      generalize hy : c[i] = y at hv
      cases hv
      rfl
    · rw [List.getElem?_eq_none (by simp; omega), List.getElem?_eq_none (by simp; omega)]
  rw [this]

/-- THE END: a function without parameters that was run from the table alone. -/
theorem run_calls {K : Kit} (hK : K.tab = space) (he : K.te = 311) {f : FuncId} {H' : AH} (hcall : CallR C0 f [] K.H0 (.ret (.bool true) H')) (ht' : isTab K.tab K.te H' = true) {W : World} {cs : Array Value} (hw : W.heap[1]? = some (.cells cs 311 (0, 0))) (hcs : cs.toList = spaceZ.map fun z => Value.int .u8 z) :
    Calls Tryz.prog f #[] W fun e W' => e = .returned (.bool true) ∧ W.keptBut W' (fun _ => False) := by
  intro css
  have hlt : 1 < W.heap.size := (Array.getElem?_eq_some_iff.1 hw).1
  generalize hσ : (fun b => if b = 1 then some ⟨1, 256, 256⟩ else none : Own) = σ
  have h1 : σ 1 = some ⟨1, 256, 256⟩ := by rw [← hσ]; rfl
  have hn : ∀ b, b ≠ 1 → σ b = none := fun b hb => by rw [← hσ]; simp [hb]
  have hg : GlOk C0 σ := by
    intro g n hgl
    have := (kit_ok (C := C0) (K := K) rfl hK).gl g n hgl
    subst this
    have h256 : C0.gl 1 = 256 := rfl
    rw [h256] at hgl
    exact ⟨_, h1, rfl, by simp only; omega⟩
  have hs : Sim (fun _ => none) σ K.H0 W := by
    refine ⟨fun b r hr => ?_, fun b b' r r' k hr hr' _ _ _ => ?_, fun b r hr => ?_, fun g k h => by cases h⟩
    · by_cases e : b = 1
      · subst e
        rw [h1] at hr; cases hr
        exact ⟨_, _, by rw [K.H0_get, if_pos rfl, hK, he], hw, table_BR hcs⟩
      · rw [hn b e] at hr; cases hr
    · by_cases e : b = 1 <;> by_cases e' : b' = 1
      · rw [e, e']
      · rw [hn b' e'] at hr'; cases hr'
      · rw [hn b e] at hr; cases hr
      · rw [hn b e] at hr; cases hr
    · by_cases e : b = 1
      · subst e
        rw [h1] at hr; cases hr
        show 1 < 2; omega
      · rw [hn b e] at hr; cases hr
  obtain ⟨σ', w', y, fr, q1, q2, q3, q4, q5, q6⟩ := hcall (fun _ => none) σ W #[] css hg hs (LR.nil σ)
  cases q1
  refine ⟨.returned (.bool true), w', fr, ⟨rfl, q3.os, q3.output, fun i hi => ?_⟩, q4, q5, q6⟩
  have same : w'.heap[i]? = W.heap[i]? := by
    by_cases e : i = 1
    · subst e
      obtain ⟨r', p1, p2, p3, p4⟩ := q3.le 1 _ h1
      obtain ⟨k, o, u1, u2, u3⟩ := q2.blk 1 r' p1
      rw [p2, isTab_get ht', hK, he] at u1
      cases u1
      rw [u2, hw, table_same hcs p3 p4 u3]
    · exact (q3.keep i hi (hn i e)).1
  rw [same]
  have hi' : W.heap[i]? = some W.heap[i] := Array.getElem?_eq_getElem hi
  rw [hi']
  generalize W.heap[i] = o
  cases o <;> first | rfl | exact ⟨rfl, rfl, rfl, fun _ _ => rfl⟩ | exact .inr ⟨rfl, rfl⟩
end Go.AM
