/- Opening a Conf. -/
import Derived.Test.YtflicgngejnajaaGuideA
import Derived.ProofKit
import Derived.OpenShut
namespace Go.Proofs.Ytflicgngejnajaa
open Go.ChangeShapes Go.WideShapes Go.ChangeAt Go.RowKit
set_option linter.unusedVariables false
set_option linter.unusedSimpArgs false

/-- A Conf, opened. -/
theorem open_conf {H : Type} {enc : TypeId × Value → H} {w : World} {base : Nat} {spare : Nat → Bool} {held : Bool} {r : Reach} {b0 : Nat} {v : Value} {d : DataW H} {p : List MemPlace} (hC : Try.prog.cellsOf 23 = 8)
    (hv : Value.okWide Try.prog w r b0 23 v) (h : DataW.Trod enc Try.prog w base spare held 23 v d p) :
    ∃ (bu dr le st tr : Int) (ro sf pi : Bool), v = confV bu dr le st tr ro sf pi := by
  obtain ⟨cs, rfl, hsz⟩ := okWide_struct Try.underlying23 hv
  obtain ⟨l⟩ := cs
  obtain ⟨c0, c1, c2, c3, c4, c5, c6, c7, rfl⟩ : ∃ c0 c1 c2 c3 c4 c5 c6 c7, l = [c0, c1, c2, c3, c4, c5, c6, c7] := by
    match l, hsz.trans hC with
    | [c0, c1, c2, c3, c4, c5, c6, c7], _ => exact ⟨_, _, _, _, _, _, _, _, rfl⟩
  obtain ⟨fuel, hf⟩ := h
  obtain ⟨xs, n, _, _, _, _, hg⟩ := DataW.trod_struct Try.underlying23 hf
  have k3 : Try.prog.cellsOf 3 = 1 := by kernel_rfl
  have k4 : Try.prog.cellsOf 4 = 1 := by kernel_rfl
  have xl : xs.length = 8 := by assumption
  have g := fun (j : Nat) (f : Field) h => hg j f h
  have e0 := hg 0 _ rfl
  have e1 := hg 1 _ rfl
  have e2 := hg 2 _ rfl
  have e3 := hg 3 _ rfl
  have e4 := hg 4 _ rfl
  have e5 := hg 5 _ rfl
  have e6 := hg 6 _ rfl
  have e7 := hg 7 _ rfl
  rw [List.getElem?_eq_getElem (by omega)] at e0 e1 e2 e3 e4 e5 e6 e7
  simp [Value.cells, k3, k4] at e0 e1 e2 e3 e4 e5 e6 e7
  obtain ⟨a0, h0, _, _⟩ := DataW.trod_int Try.underlying3 e0
  obtain ⟨a1, h1, _, _⟩ := DataW.trod_int Try.underlying3 e1
  obtain ⟨a2, h2, _, _⟩ := DataW.trod_int Try.underlying3 e2
  obtain ⟨a3, h3, _, _⟩ := DataW.trod_int Try.underlying3 e3
  obtain ⟨a4, h4, _, _⟩ := DataW.trod_int Try.underlying3 e4
  obtain ⟨a5, h5, _⟩ := DataW.trod_bool Try.underlying4 e5
  obtain ⟨a6, h6, _⟩ := DataW.trod_bool Try.underlying4 e6
  obtain ⟨a7, h7, _⟩ := DataW.trod_bool Try.underlying4 e7
  simp at h0 h1 h2 h3 h4 h5 h6 h7
  subst h0 h1 h2 h3 h4 h5 h6 h7
  exact ⟨_, _, _, _, _, _, _, _, rfl⟩
end Go.Proofs.Ytflicgngejnajaa
