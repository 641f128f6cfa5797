/- The walk of median.Of. -/
import Derived.Test.YtimkedfdeghmnaaMedB
import Derived.Deep.RegionWith
namespace Go.Proofs.Ytimkedfdeghmnaa
open Go.RowKit
attribute [local go_sem] setCell_drewN alloc_drewN

theorem middle_still (a b c : Int) (w : World) :
    Calls Try.prog 14 #[.int .i64 a, .int .i64 b, .int .i64 c] w fun e w' => e = .returned (.int .i64 (middle a b c)) ∧ w' = w :=
  (middle_call a b c w).mono fun _ _ h => ⟨h.1, h.2.symm⟩

theorem of_core (a : Option Addr) (n cap m : Nat) (first x0 y0 x1 y1 x2 y2 : Int) (w : World) (hm : 1 ≤ m)
    (hc : Hid (∀ W, Below w.heap.size w W → Calls Try.prog 23 #[.slice a n cap, .int .i64 (m : Int), .int .i64 first] W fun e w' =>
      e = .returned (.tuple #[vecV x0 y0, vecV x1 y1, vecV x2 y2]) ∧ Below W.heap.size W w')) :
    Calls Try.prog 10 #[.slice a n cap, .int .i64 (m : Int), .int .i64 first] w fun e w' =>
      e = .returned (vecV (middle x0 x1 x2) (middle y0 y1 y2)) ∧ Below w.heap.size w w' := by
  have hm1 : ¬ ((m : Int) < 1) := by omega
  go_enter Try.func10, Try.ntmps10
  go_wp2_with fail
  refine (hc.out _ (below_alloc (Below.refl _ _) _)).mono ?_
  rintro e w1 ⟨rfl, hb⟩
  have c0 : w1.cell? ⟨w.heap.size, 0, none⟩ = some (.int .i64 0) := by rw [hb.cell (by simp)]; simp [go_sem]
  have c1 : w1.cell? ⟨w.heap.size, 1, none⟩ = some (.int .i64 0) := by rw [hb.cell (by simp)]; simp [go_sem]
  have f0 : w1.frozen? ⟨w.heap.size, 0, none⟩ = false := by rw [hb.frozen (by simp)]; simp [go_sem]
  have f1 : w1.frozen? ⟨w.heap.size, 1, none⟩ = false := by rw [hb.frozen (by simp)]; simp [go_sem]
  have hz : w.heap.size < w1.heap.size := by have := hb.size; simp at this; omega
  have hz1 : w.heap.size < w1.heap.size + 1 := by omega
  have hz2 : w.heap.size < w1.heap.size + 1 + 1 := by omega
  have hz3 : w.heap.size < w1.heap.size + 1 + 1 + 1 := by omega
  have HB := hide hb
  clear hb
  go_wp2_with fail
  refine wp_loop_rounds 3 ?_
  rw [rounds_succ]
  go_wp2_with fail
  refine wp_region_still_tail 12 (by kernel_rfl) (by kernel_rfl) ?_
  change wpStill Try.prog _ (World.drew _) (fun a' => wpList _ _ _ _ a' (World.drew _)) _ _
  simp only [List.take_succ_cons, List.take_zero, List.drop_succ_cons, List.drop_zero]
  repeat still_step
  still_call (middle_still _ _ _ _)
  repeat still_step
  refine wpStill_nil ?_
  go_wp2_with fail
  rw [rounds_succ]
  go_wp2_with fail
  refine wp_region_still_tail 12 (by kernel_rfl) (by kernel_rfl) ?_
  change wpStill Try.prog _ (World.drew _) (fun a' => wpList _ _ _ _ a' (World.drew _)) _ _
  simp only [List.take_succ_cons, List.take_zero, List.drop_succ_cons, List.drop_zero]
  repeat still_step
  still_call (middle_still _ _ _ _)
  repeat still_step
  refine wpStill_nil ?_
  go_wp2_with fail
  rw [rounds_succ]
  go_wp2_with fail
  have B1 : Below w.heap.size w w1 := (below_alloc (Below.refl _ _) _).trans (HB.out.mono (by simp))
  exact bodyPost_ret (v := vecV (middle x0 x1 x2) (middle y0 y1 y2)) (by simp [results, Try.results10, go_sem, c0, c1, hz, hz1, hz2, hz3]) rfl
    ⟨rfl, (below_alloc (below_alloc (below_alloc (below_alloc ((B1.setCell (Nat.le_refl _) _).setCell (Nat.le_refl _) _) _) _) _) _).drew.drew⟩

theorem of_small (a : Option Addr) (n cap : Nat) (across first : Int) (w : World) (hm : across < 1) :
    Calls Try.prog 10 #[.slice a n cap, .int .i64 across, .int .i64 first] w fun e w' => e = .returned (vecV 0 0) ∧ Below w.heap.size w w' := by
  go_enter Try.func10, Try.ntmps10
  go_wp2_with fail
  exact bodyPost_ret (v := vecV 0 0) (by simp [results, Try.results10, go_sem]) rfl ⟨rfl, below_alloc (Below.refl _ _) _⟩

/-- What median.Of foretells. -/
def medianOf (l : List (Int × Int)) (across first : Int) : Int × Int := if across < 1 then (0, 0) else medOf l across.toNat first

theorem IsPairs.below {w w' : World} {a : Option Addr} {l : List (Int × Int)} (h : IsPairs w a l) (hb : Below w.heap.size w w') : IsPairs w' a l := by
  intro hl
  obtain ⟨b, off, ha, hlt, hc⟩ := h hl
  refine ⟨b, off, ha, Nat.lt_of_lt_of_le hlt hb.size, fun i hi => ?_⟩
  rw [hb.cell (p := ⟨b, off + i * 2, none⟩) hlt, hb.cell (p := ⟨b, off + i * 2 + 1, none⟩) hlt]
  exact hc i hi

theorem of_call (a : Option Addr) (l : List (Int × Int)) (cap : Nat) (across first : Int) (w : World) (hp : IsPairs w a l) (hn : l.length ≤ 500) :
    Calls Try.prog 10 #[.slice a l.length cap, .int .i64 across, .int .i64 first] w fun e w' =>
      e = .returned (vecP (medianOf l across first)) ∧ Below w.heap.size w w' := by
  unfold medianOf
  by_cases h : across < 1
  · rw [if_pos h]
    exact of_small a l.length cap across first w h
  · rw [if_neg h]
    have e : across = ((across.toNat : Nat) : Int) := by omega
    generalize across.toNat = m at e
    subst e
    exact of_core a l.length cap m first _ _ _ _ _ _ w (by omega) (fun W hb => around_call a l cap m first W (hp.below hb) hn (by omega))
end Go.Proofs.Ytimkedfdeghmnaa
