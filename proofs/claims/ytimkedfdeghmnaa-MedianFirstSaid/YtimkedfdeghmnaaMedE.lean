/- The walk of the reference's Of. -/
import Derived.Test.YtimkedfdeghmnaaMedD
namespace Go.Proofs.Ytimkedfdeghmnaa
open Go.RowKit
attribute [local go_sem] setCell_drewN alloc_drewN

theorem refMiddle_still (a b c : Int) (w : World) :
    Calls Try.prog 15 #[.int .i64 a, .int .i64 b, .int .i64 c] w fun e w' => e = .returned (.int .i64 (middle a b c)) ∧ w' = w :=
  (refMiddle_call a b c w).mono fun _ _ h => ⟨h.1, h.2.symm⟩

theorem three_new (w : World) (x0 y0 x1 y1 x2 y2 : Int) (W : World)
    (hW : W = ((w.alloc (.cells #[.int .i64 x0, .int .i64 y0] 24)).alloc (.cells #[.int .i64 x1, .int .i64 y1] 24)).alloc (.cells #[.int .i64 x2, .int .i64 y2] 24)) :
    IsVec W w.heap.size x0 y0 ∧ IsVec W (w.heap.size + 1) x1 y1 ∧ IsVec W (w.heap.size + 1 + 1) x2 y2 := by
  subst hW
  refine ⟨((IsVec.new w x0 y0).alloc _).alloc _, ?_, ?_⟩
  · have h := (IsVec.new (w.alloc (.cells #[.int .i64 x0, .int .i64 y0] 24)) x1 y1).alloc (.cells #[.int .i64 x2, .int .i64 y2] 24)
    simpa using h
  · have h := IsVec.new ((w.alloc (.cells #[.int .i64 x0, .int .i64 y0] 24)).alloc (.cells #[.int .i64 x1, .int .i64 y1] 24)) x2 y2
    simpa using h

theorem refOf_small (a : Option Addr) (n cap : Nat) (across first : Int) (w : World) (hm : across < 1) :
    Calls Try.prog 11 #[.slice a n cap, .int .i64 across, .int .i64 first] w fun e w' => e = .returned (vecV 0 0) ∧ Below w.heap.size w w' := by
  go_enter Try.func11, Try.ntmps11
  go_wp2_with fail
  exact bodyPost_ret (v := vecV 0 0) (by simp [results, Try.results11, go_sem]) rfl ⟨rfl, below_alloc (Below.refl _ _) _⟩

theorem refOf_top (a : Option Addr) (n cap m : Nat) (first x0 y0 : Int) (w : World) (hm : 1 ≤ m) (hn : n ≤ 500)
    (hg : (n : Int) / (m : Int) ≤ 0 ∨ (n : Int) / (m : Int) ≤ first)
    (hL : Hid (∀ W, Below w.heap.size w W → Calls Try.prog 24 #[.slice a n cap, .int .i64 (m : Int), .int .i64 ((n : Int) % (m : Int) - 1), .int .i64 ((n : Int) / (m : Int))] W fun e w' => e = .returned (vecV x0 y0) ∧ Below W.heap.size W w')) :
    Calls Try.prog 11 #[.slice a n cap, .int .i64 (m : Int), .int .i64 first] w fun e w' => e = .returned (vecV (middle x0 x0 x0) (middle y0 y0 y0)) ∧ Below w.heap.size w w' := by
  have hd0 : 0 ≤ (n : Int) / (m : Int) := Int.ediv_nonneg (by omega) (by omega)
  have hd1 : (n : Int) / (m : Int) ≤ 500 := Int.le_trans (Int.ediv_le_self _ (by omega)) (by omega)
  have hm0 : ((m : Int) == 0) = false := by rw [beq_eq_false_iff_ne]; omega
  have hm1 : 0 < (m : Int) := by omega
  have hr0 : 0 ≤ (n : Int) % (m : Int) := Int.emod_nonneg _ (by omega)
  have hr1 : (n : Int) % (m : Int) ≤ 500 := by have := Int.emod_lt_of_pos (n : Int) hm1; have := Int.emod_add_mul_ediv (n : Int) (m : Int); have := Int.mul_nonneg (Int.le_of_lt hm1) hd0; omega
  have HV := hide (IsVec.new w 0 0)
  by_cases hl : (n : Int) / (m : Int) ≤ 0
  · clear hg
    go_enter Try.func11, Try.ntmps11
    go_wp2_with fail
    refine (hL.out _ (below_alloc (Below.refl _ _) _)).mono ?_
    rintro e w1 ⟨rfl, hb⟩
    obtain ⟨ra, rb, rc, rd, re⟩ := HV.out.below hb (by simp)
    have re1 : w.heap.size < w1.heap.size + 1 := by omega
    have re2 : w.heap.size < w1.heap.size + 1 + 1 := by omega
    have re3 : w.heap.size < w1.heap.size + 1 + 1 + 1 := by omega
    have HB := hide hb
    clear hb
    go_wp2_with fail
    refine wp_region_still_tail 15 (by kernel_rfl) (by kernel_rfl) ?_
    change wpStill Try.prog _ (World.drew _) (fun a' => wpList _ _ _ _ a' (World.drew _)) _ _
    simp only [List.take_succ_cons, List.take_zero, List.drop_succ_cons, List.drop_zero]
    repeat still_step
    still_call (refMiddle_still _ _ _ _)
    repeat still_step
    still_call (refMiddle_still _ _ _ _)
    repeat still_step
    refine wpStill_nil ?_
    go_wp2_with fail
    have B1 : Below w.heap.size w w1 := (below_alloc (Below.refl _ _) _).trans (HB.out.mono (by simp))
    exact bodyPost_ret (v := vecV (middle x0 x0 x0) (middle y0 y0 y0)) (by simp [results, Try.results11, go_sem, ra, rb, re, re1, re2]) rfl
      ⟨rfl, (below_alloc (below_alloc (below_alloc ((B1.setCell (Nat.le_refl _) _).setCell (Nat.le_refl _) _) _) _) _).drew⟩
  · have hf : (n : Int) / (m : Int) ≤ first := by omega
    clear hg
    go_enter Try.func11, Try.ntmps11
    go_wp2_with fail
    refine (hL.out _ (below_alloc (Below.refl _ _) _)).mono ?_
    rintro e w1 ⟨rfl, hb⟩
    obtain ⟨ra, rb, rc, rd, re⟩ := HV.out.below hb (by simp)
    have re1 : w.heap.size < w1.heap.size + 1 := by omega
    have re2 : w.heap.size < w1.heap.size + 1 + 1 := by omega
    have re3 : w.heap.size < w1.heap.size + 1 + 1 + 1 := by omega
    have HB := hide hb
    clear hb
    go_wp2_with fail
    refine wp_region_still_tail 15 (by kernel_rfl) (by kernel_rfl) ?_
    change wpStill Try.prog _ (World.drew _) (fun a' => wpList _ _ _ _ a' (World.drew _)) _ _
    simp only [List.take_succ_cons, List.take_zero, List.drop_succ_cons, List.drop_zero]
    repeat still_step
    still_call (refMiddle_still _ _ _ _)
    repeat still_step
    still_call (refMiddle_still _ _ _ _)
    repeat still_step
    refine wpStill_nil ?_
    go_wp2_with fail
    have B1 : Below w.heap.size w w1 := (below_alloc (Below.refl _ _) _).trans (HB.out.mono (by simp))
    exact bodyPost_ret (v := vecV (middle x0 x0 x0) (middle y0 y0 y0)) (by simp [results, Try.results11, go_sem, ra, rb, re, re1, re2]) rfl
      ⟨rfl, (below_alloc (below_alloc (below_alloc ((B1.setCell (Nat.le_refl _) _).setCell (Nat.le_refl _) _) _) _) _).drew⟩

theorem refOf_low (a : Option Addr) (n cap m : Nat) (first x0 y0 x1 y1 x2 y2 : Int) (w : World) (hm : 1 ≤ m) (hn : n ≤ 500)
    (hg : 0 < (n : Int) / (m : Int)) (hf : first < (n : Int) / (m : Int))
    (hL : Hid (∀ W, Below w.heap.size w W → Calls Try.prog 24 #[.slice a n cap, .int .i64 (m : Int), .int .i64 ((n : Int) % (m : Int) - 1), .int .i64 ((n : Int) / (m : Int))] W fun e w' => e = .returned (vecV x0 y0) ∧ Below W.heap.size W w'))
    (hA : Hid (∀ W, Below w.heap.size w W → Calls Try.prog 24 #[.slice a n cap, .int .i64 (m : Int), .int .i64 ((n : Int) % (m : Int)), .int .i64 ((n : Int) / (m : Int) - 1)] W fun e w' => e = .returned (vecV x1 y1) ∧ Below W.heap.size W w'))
    (hR : Hid (∀ W, Below w.heap.size w W → Calls Try.prog 24 #[.slice a n cap, .int .i64 (m : Int), .int .i64 ((n : Int) % (m : Int) + 1), .int .i64 ((n : Int) / (m : Int) - 1)] W fun e w' => e = .returned (vecV x2 y2) ∧ Below W.heap.size W w')) :
    Calls Try.prog 11 #[.slice a n cap, .int .i64 (m : Int), .int .i64 first] w fun e w' => e = .returned (vecV (middle x0 x1 x2) (middle y0 y1 y2)) ∧ Below w.heap.size w w' := by
  have hd0 : 0 ≤ (n : Int) / (m : Int) := Int.ediv_nonneg (by omega) (by omega)
  have hd1 : (n : Int) / (m : Int) ≤ 500 := Int.le_trans (Int.ediv_le_self _ (by omega)) (by omega)
  have hm0 : ((m : Int) == 0) = false := by rw [beq_eq_false_iff_ne]; omega
  have hm1 : 0 < (m : Int) := by omega
  have hr0 : 0 ≤ (n : Int) % (m : Int) := Int.emod_nonneg _ (by omega)
  have hr1 : (n : Int) % (m : Int) ≤ 500 := by have := Int.emod_lt_of_pos (n : Int) hm1; have := Int.emod_add_mul_ediv (n : Int) (m : Int); have := Int.mul_nonneg (Int.le_of_lt hm1) hd0; omega
  have HV := hide (IsVec.new w 0 0)
  go_enter Try.func11, Try.ntmps11
  go_wp2_with fail
  refine (hL.out _ (below_alloc (Below.refl _ _) _)).mono ?_
  rintro e w1 ⟨rfl, hb⟩
  obtain ⟨ra, rb, rc, rd, re⟩ := HV.out.below hb (by simp)
  have re1 : w.heap.size < w1.heap.size + 1 := by omega
  have re2 : w.heap.size < w1.heap.size + 1 + 1 := by omega
  have re3 : w.heap.size < w1.heap.size + 1 + 1 + 1 := by omega
  have HB := hide hb
  clear hb
  go_wp2_with fail
  have B1 : Below w.heap.size w (((w1.alloc (.cells #[.int .i64 x0, .int .i64 y0] 24)).alloc (.cells #[.int .i64 x0, .int .i64 y0] 24)).alloc (.cells #[.int .i64 x0, .int .i64 y0] 24)) :=
    below_alloc (below_alloc (below_alloc ((below_alloc (Below.refl _ _) _).trans (HB.out.mono (by simp))) _) _) _
  obtain ⟨n0, n1, n2⟩ := three_new w1 x0 y0 x0 y0 x0 y0 _ rfl
  have n3 := (((show IsVec w1 w.heap.size 0 0 from ⟨ra, rb, rc, rd, re⟩).alloc (.cells #[.int .i64 x0, .int .i64 y0] 24)).alloc (.cells #[.int .i64 x0, .int .i64 y0] 24)).alloc (.cells #[.int .i64 x0, .int .i64 y0] 24)
  refine (hA.out _ B1).mono ?_
  rintro e w2 ⟨rfl, hb⟩
  replace B1 := B1.trans (hb.mono B1.size)
  replace n0 := n0.below hb n0.2.2.2.2
  replace n1 := n1.below hb n1.2.2.2.2
  replace n2 := n2.below hb n2.2.2.2.2
  replace n3 := n3.below hb n3.2.2.2.2
  clear hb HB ra rb rc rd HV
  have k0 := hide n0
  have k1 := hide n1
  have k2 := hide n2
  have k3 := hide n3
  have HB := hide B1
  clear n0 n2 n3 B1
  obtain ⟨aa, ab, ac, ad, ae⟩ := n1
  go_wp2_with fail
  have B2 := (HB.out.setCell (show w.heap.size ≤ (⟨w1.heap.size + 1, 0, none⟩ : Addr).block from by show _ ≤ w1.heap.size + 1; omega) (.int .i64 x1)).setCell (show w.heap.size ≤ (⟨w1.heap.size + 1, 1, none⟩ : Addr).block from by show _ ≤ w1.heap.size + 1; omega) (.int .i64 y1)
  have m0 := k0.out.other (show w1.heap.size ≠ w1.heap.size + 1 by omega) (.int .i64 x1) (.int .i64 y1)
  have m1 := k1.out.set x1 y1
  have m2 := k2.out.other (show w1.heap.size + 1 + 1 ≠ w1.heap.size + 1 by omega) (.int .i64 x1) (.int .i64 y1)
  have m3 := k3.out.other (show w.heap.size ≠ w1.heap.size + 1 by omega) (.int .i64 x1) (.int .i64 y1)
  refine (hR.out _ B2).mono ?_
  rintro e w3 ⟨rfl, hb⟩
  replace B2 := B2.trans (hb.mono B2.size)
  replace m0 := m0.below hb m0.2.2.2.2
  replace m1 := m1.below hb m1.2.2.2.2
  replace m2 := m2.below hb m2.2.2.2.2
  replace m3 := m3.below hb m3.2.2.2.2
  clear hb HB k0 k1 k2 k3 aa ab ac ad ae
  have HB := hide B2
  clear B2
  obtain ⟨ea, eb, ec, ed, ee⟩ := m0
  obtain ⟨fa, fb, fc, fd, fe⟩ := m1
  obtain ⟨ga, gb, gc, gd, ge⟩ := m2
  obtain ⟨ia, ib, ic, id, ie⟩ := m3
  go_wp2_with fail
  refine wp_region_still_tail 15 (by kernel_rfl) (by kernel_rfl) ?_
  change wpStill Try.prog _ (World.drew _) (fun a' => wpList _ _ _ _ a' (World.drew _)) _ _
  simp only [List.take_succ_cons, List.take_zero, List.drop_succ_cons, List.drop_zero]
  repeat still_step
  still_call (refMiddle_still _ _ _ _)
  repeat still_step
  still_call (refMiddle_still _ _ _ _)
  repeat still_step
  refine wpStill_nil ?_
  go_wp2_with fail
  exact bodyPost_ret (v := vecV (middle x0 x1 x2) (middle y0 y1 y2)) (by simp [results, Try.results11, go_sem, ia, ib]) rfl
    ⟨rfl, ((((HB.out.setCell (show w.heap.size ≤ w1.heap.size + 1 + 1 by omega) _).setCell (show w.heap.size ≤ w1.heap.size + 1 + 1 by omega) _).setCell (Nat.le_refl _) _).setCell (Nat.le_refl _) _).drew⟩
end Go.Proofs.Ytimkedfdeghmnaa
