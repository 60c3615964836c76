/-
  What both rows share. By an AI agent.
-/
import Derived.Test.YtlbpfpffifppiaaGreatDoorAmE
import Derived.Test.YtlbpfpffifppiaaGreatDoorAmTc
import Derived.Test.YtlbpfpffifppiaaGreatDoorCards
import Derived.Lay
import Derived.LaidMore
import Derived.SevenTiedAt
import Derived.Stop.Joined
namespace Go.AM
open Go Go.AM Go.Proofs Go.ChangeShapes Go.WideShapes Go.ChangeAt Go.RowKit
open Go.Proofs.YtlbpfpffifppiaaGreatDoor

theorem own : ownKnob Tryz.prog.godebug = none := by kernel_rfl
theorem space_laid : (Rows.laid_strings_asciiSpace : DataW Unit) = Lib.tabData .u8 spaceZ := by kernel_rfl

theorem no_params {H : Type} {enc : TypeId × Value → H} {P : Program} {W : World} {vars : List String} {args : Array Value} {ds gs : List (DataW H)} {before : List MemPlace} (hv : vars = []) (hW : DataW.Whole enc P [] vars false W args.toList ds gs before) : args = #[] ∧ ds = [] ∧ gs = [] ∧ before = [] := by
  subst hv
  obtain ⟨p, q, hA, hV, rfl, _, _⟩ := hW
  have hargs : args.toList = [] ∧ ds = [] ∧ p = [] := by
    obtain ⟨a, b, c⟩ := trodAll_nil hA
    exact ⟨a, b, c⟩
  obtain ⟨h1, rfl, rfl⟩ := hargs
  obtain ⟨rfl, rfl⟩ := trodVars_none hV
  exact ⟨by simpa using h1, rfl, rfl, rfl⟩

theorem said_contract {K : Kit} (hK : K.tab = space) (he : K.te = 311) {f : FuncId} {fn : Func} (hp : fn.params = #[]) (hr : fn.resultTypes = #[4]) {H' : AH} (hcall : CallR C0 f [] K.H0 (.ret (.bool true) H')) (ht' : isTab K.tab K.te H' = true) {s : ChangeSpec} (hs : s.vars = [])
    (hfn : ∀ H : Type, s.fn H [] = { results := [.lit (.bool true)], args := [] }) {l : List (String × DataW Unit)} (hno : l.filter (fun x => x.2.handleName?.isSome) = []) (hm : ("strings.asciiSpace", (Rows.laid_strings_asciiSpace : DataW Unit)) ∈ l)
    (H : Type) (enc : TypeId × Value → H) (W : World) (args : Array Value) (ds gs : List (DataW H)) (before : List MemPlace)
    (hW : DataW.Whole enc Tryz.prog fn.params.toList s.vars false W args.toList ds gs before) (hL : laidMetH Tryz.prog l W) (hsh : W.ShapedOpen Tryz.prog) :
    Calls Tryz.prog f args W fun e W' => ∃ v, e = .returned v ∧ s.post enc Tryz.prog fn false true false false W args v W' := by
  have hW0 := hW
  rw [hp] at hW0
  obtain ⟨rfl, rfl, rfl, rfl⟩ := no_params hs hW0
  obtain ⟨cs, hw, hcs⟩ := table_at hL hno space_laid hm hsh
  refine (run_calls hK he hcall ht' hw hcs).mono fun e W' ⟨he, hk⟩ => ?_
  subst he
  refine ⟨_, rfl, [], [], [], [], [], [], hW, ?_, ?_, ?_, World.keptBut_mono (fun p h => h.elim) hk, fun h => by cases h⟩
  · rw [hr]
    show DataW.TrodAll enc Tryz.prog W' _ (fun _ => false) false [4] [.bool true] (s.fn H []).results []
    rw [hfn]
    exact trodAll_mk1 (shut_bool Tryz.underlying4 _)
  · rw [hp]
    show DataW.TrodAll enc Tryz.prog W' 0 _ true [] [] (s.fn H []).args []
    rw [hfn]
    exact trodAll_mk0
  · rw [hs]
    show DataW.TrodVars enc Tryz.prog W' _ [] (s.fn H []).vars []
    rw [hfn]
    rfl
end Go.AM
