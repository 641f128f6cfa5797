/- The weights as the row lays them; the closing of the flat law's walk. -/
import Derived.Test.YtimkedfdeghmnaaDoorRows
import Derived.Test.YtimkedfdeghmnaaDoorFlat
import Derived.Lib.LaidTab
import Derived.ChangeSame
import Derived.ChangeVars
import Derived.JoinedOf
import Derived.RowKit
namespace Go.Proofs.YtimkedfdeghmnaaDoor
open Go.RowKit Go.Lib
set_option linter.unusedVariables false
set_option linter.unusedSimpArgs false

theorem nought_flat : nought = fun _ => 0 := rfl
theorem nought_l0 : nought = l0 0 := by funext i; unfold nought l0; rw [ite_self]
theorem law6_call (n : Int) (w : World) (hw : HasW w) : Calls Tryd.prog 6 #[.int .i64 n] w fun e w' => e = .returned (.bool true) ∧ Below w.heap.size w w' := by
  refine law6_core n w hw (fA n) (fun _ => b0 n) (a0 n) (b0 n) rfl (fun i h _ => if_neg (by omega)) (fun _ _ => rfl) (a0_bd n).1 (a0_bd n).2 (b0_bd n).1 (b0_bd n).2 a0_of b0_of (fun W h => ?_) (fun W h => ?_) (fun W h => ?_) (fun W h => ?_)
  · have c := fwd_call (fun _ => n) W h
    rw [show blkV (fwd fun _ => n) = blkV (fA n) from blkV_congr fun i hi => fwd_flat n i hi] at c
    exact c
  · have c := inv_call (l0 n) W h
    rw [show blkV (inv (l0 n)) = blkV (fun _ => b0 n) from blkV_congr fun i hi => inv_l0 n i hi] at c
    exact c
  · have c := fwd_call nought W h
    rw [show blkV (fwd nought) = blkV nought from blkV_congr fun i hi => by
      rw [nought_flat, fwd_flat 0 i hi]; unfold fA; rw [show a0 0 = 0 by decide, ite_self]] at c
    exact c
  · have c := inv_call nought W h
    rw [show blkV (inv nought) = blkV nought from blkV_congr fun i hi => by
      rw [nought_l0, inv_l0 0 i hi, ← nought_l0]; show b0 0 = 0; decide] at c
    exact c

def wrow (u : Nat) : List Int := (wtab.drop (8 * u)).take 8
theorem laid_rows {H : Type} : Rows.laid_overspill_dct_weights (H := H) = .agg ((List.range 8).map fun u => tabData .i64 (wrow u)) := rfl
theorem weights_global : Tryd.prog.globalNamed "overspill/dct.weights" = some 0 := by kernel_rfl
theorem weights_type : (Tryd.prog.globals[0]?).map (·.type) = some 33 := by kernel_rfl
theorem cells33 : Tryd.prog.cellsOf 33 = 64 := by kernel_rfl
theorem cells32 : Tryd.prog.cellsOf 32 = 8 := by kernel_rfl
theorem cells3 : Tryd.prog.cellsOf 3 = 1 := by kernel_rfl
theorem wrow_at : ∀ u, u < 8 → ∀ x, x < 8 → ((wrow u).map fun z => Value.int .i64 z)[x]? = some (.int .i64 (wt u x)) := by
  intro u hu x hx
  unfold wrow wt
  rw [List.getElem?_map, List.getElem?_take, if_pos hx, List.getElem?_drop, List.getD_eq_getElem?_getD]
  have h : wtab.length = 64 := rfl
  rw [List.getElem?_eq_getElem (by omega)]; rfl

/-- What the row's condition gives the walk. -/
theorem weights_of_laid {W : World} (h : laidMet Tryd.prog [("overspill/dct.weights", Rows.laid_overspill_dct_weights)] W) : HasW W := by
  obtain ⟨ps, ⟨g, t, cs, fuel, p, q, hg, ht, hvar, hd, _, _⟩, _⟩ := h
  obtain rfl := Option.some.inj (weights_global.symm.trans hg)
  obtain rfl := Option.some.inj (weights_type.symm.trans ht)
  have key : ∀ u, u < 8 → (cs.toList.drop (u * 8)).take 8 = (wrow u).map fun z => Value.int .i64 z := by
    intro u hu
    cases fuel with
    | zero => simp [DataW.trod] at hd
    | succ fuel =>
      simp only [DataW.trod, Tryd.underlying33, cells33, cells32] at hd
      split at hd
      · obtain ⟨xs, hm, hx⟩ := Option.map_eq_some_iff.1 hd
        rw [laid_rows] at hx
        have hxs : xs.map (·.1) = (List.range 8).map fun u => tabData .i64 (wrow u) := by
          have := congrArg Prod.fst hx
          simpa using this
        obtain ⟨b, hb, hf⟩ := mapM_at hm u u (by simp [hu])
        have h2 : (xs.map (·.1))[u]? = some (tabData .i64 (wrow u)) := by rw [hxs, List.getElem?_map, List.getElem?_range hu]; rfl
        rw [List.getElem?_map, hb] at h2
        obtain ⟨b1, b2⟩ := b
        simp at h2
        subst h2
        exact cells_of_tab Tryd.underlying32 Tryd.underlying3 cells3 cells32 hf
      · cases hd
  have hz : 0 < W.heap.size := by
    have h0 := World.var?_cell weights_global hvar 0
    have h1 := wrow_at 0 (by omega) 0 (by omega)
    rw [← key 0 (by omega), List.getElem?_take, if_pos (by omega), List.getElem?_drop] at h1
    have h2 : W.cell? ⟨0, 0, none⟩ = some (.int .i64 (wt 0 0)) := by
      rw [h0]; simpa using h1
    exact block_lt_of_cell h2
  refine ⟨hz, fun u x hu hx => ?_⟩
  have h0 := World.var?_cell weights_global hvar (u * 8 + x)
  have h1 := wrow_at u hu x hx
  rw [← key u hu, List.getElem?_take, if_pos hx, List.getElem?_drop] at h1
  rw [h0]
  simpa using h1

def cells64 : Array Value := #[.int .i64 (64), .int .i64 (64), .int .i64 (64), .int .i64 (64), .int .i64 (64), .int .i64 (64), .int .i64 (64), .int .i64 (64), .int .i64 (89), .int .i64 (75), .int .i64 (50), .int .i64 (18), .int .i64 (-18), .int .i64 (-50), .int .i64 (-75), .int .i64 (-89), .int .i64 (83), .int .i64 (36), .int .i64 (-36), .int .i64 (-83), .int .i64 (-83), .int .i64 (-36), .int .i64 (36), .int .i64 (83), .int .i64 (75), .int .i64 (-18), .int .i64 (-89), .int .i64 (-50), .int .i64 (50), .int .i64 (89), .int .i64 (18), .int .i64 (-75), .int .i64 (64), .int .i64 (-64), .int .i64 (-64), .int .i64 (64), .int .i64 (64), .int .i64 (-64), .int .i64 (-64), .int .i64 (64), .int .i64 (50), .int .i64 (-89), .int .i64 (18), .int .i64 (75), .int .i64 (-75), .int .i64 (-18), .int .i64 (89), .int .i64 (-50), .int .i64 (36), .int .i64 (-83), .int .i64 (83), .int .i64 (-36), .int .i64 (-36), .int .i64 (83), .int .i64 (-83), .int .i64 (36), .int .i64 (18), .int .i64 (-50), .int .i64 (75), .int .i64 (-89), .int .i64 (89), .int .i64 (-75), .int .i64 (50), .int .i64 (-18)]
/-- A world that meets the condition. -/
noncomputable def laidWorld (os : Os) : World :=
  { World.holding Tryd.prog os ⟨#[], #[], []⟩ with heap := (World.holding Tryd.prog os ⟨#[], #[], []⟩).heap.modify 0 fun
      | .cells _ t frozen => .cells cells64 t frozen
      | o => o }
theorem laidWorld_met (os : Os) (args : Array Value) : laidMet Tryd.prog [("overspill/dct.weights", Rows.laid_overspill_dct_weights)] ((laidWorld os).forCall (fun _ _ => 0) ⟨#[], args, []⟩).memory :=
  laidMet_of_run' 8 (by kernel_rfl) (by kernel_rfl)
theorem own : ownKnob Tryd.prog.godebug = none := by kernel_rfl
theorem laidOut : laidOutB Tryd.prog = true := by kernel_rfl
end Go.Proofs.YtimkedfdeghmnaaDoor
