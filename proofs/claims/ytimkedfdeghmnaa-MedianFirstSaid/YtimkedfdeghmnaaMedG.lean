/- The chapter's examples of median. -/
import Derived.Test.YtimkedfdeghmnaaMedF
import Derived.Test.YtimkedfdeghmnaaEqNums
namespace Go.Proofs.Ytimkedfdeghmnaa
open Go.RowKit
attribute [local go_sem] setCell_drewN alloc_drewN

theorem run_eq_vec (w : World) (x0 y0 x1 y1 : Int) :
    (Op.equalIn 10000 24 (.agg #[.int .i64 x0, .int .i64 y0]) (.agg #[.int .i64 x1, .int .i64 y1])).run Try.prog w = .ok (x0 == x1 && y0 == y1) w := by
  have h := run_equalIn_nums (P := Try.prog) w 9998 24 3 2 .i64 Try.underlying24 Try.underlying3 (fun _ => by kernel_rfl) [x0, y0] [x1, y1] rfl rfl
  have e : ([x0, y0] == [x1, y1]) = (x0 == x1 && y0 == y1) := by simp [List.cons_beq_cons]
  rw [e] at h
  exact h

/-- A block that holds these vectors from its head on. -/
theorem IsPairs.block {w : World} {b : Nat} {C : Array Value} {t : TypeId} {f : Nat × Nat} (l : List (Int × Int)) (h : w.heap[b]? = some (.cells C t f))
    (hc : ∀ i, i < l.length → C[i * 2]? = some (.int .i64 (vat l i).1) ∧ C[i * 2 + 1]? = some (.int .i64 (vat l i).2)) : IsPairs w (some ⟨b, 0, none⟩) l := by
  intro _
  refine ⟨b, 0, rfl, ?_, fun i hi => ?_⟩
  · rcases Nat.lt_or_ge b w.heap.size with h' | h'
    · exact h'
    · rw [Array.getElem?_eq_none h'] at h; cases h
  · obtain ⟨h1, h2⟩ := hc i hi
    simp only [World.cell?, h, Nat.zero_add]
    exact ⟨h1, h2⟩

attribute [local go_sem] run_eq_vec

theorem lives19_call (w : World) : Calls Try.prog 9 #[] w fun e w' => e = .returned (.bool true) ∧ Below w.heap.size w w' := by
  have P1 := hide (IsPairs.block (w := w.alloc (.cells #[.int .i64 1, .int .i64 2, .int .i64 3, .int .i64 4, .int .i64 5, .int .i64 0] 24)) [(1, 2), (3, 4), (5, 0)] (heap_alloc_new w _)
    (by intro i hi; match i, hi with | 0, _ => exact ⟨rfl, rfl⟩ | 1, _ => exact ⟨rfl, rfl⟩ | 2, _ => exact ⟨rfl, rfl⟩))
  go_enter Try.func9, Try.ntmps9
  go_wp2_with fail
  refine (of_call _ [(1, 2), (3, 4), (5, 0)] _ _ _ _ P1.out (by decide)).mono ?_
  rintro e w1 ⟨rfl, hb1⟩
  rw [show vecP (medianOf [(1, 2), (3, 4), (5, 0)] 3 0) = vecV 1 2 from by rfl]
  have HB1 := hide hb1
  clear hb1
  go_wp2_with fail
  refine (of_call _ [(1, 2), (3, 4), (5, 0)] _ _ _ _ (P1.out.below HB1.out) (by decide)).mono ?_
  rintro e w2 ⟨rfl, hb2⟩
  rw [show vecP (medianOf [(1, 2), (3, 4), (5, 0)] 3 1) = vecV 0 0 from by rfl]
  have HB2 := hide hb2
  clear hb2
  have P2 := hide (IsPairs.block (w := w2.alloc (.cells #[.int .i64 1, .int .i64 2] 24)) [(1, 2)] (heap_alloc_new w2 _)
    (by intro i hi; match i, hi with | 0, _ => exact ⟨rfl, rfl⟩))
  go_wp2_with fail
  refine (of_call _ [(1, 2)] _ _ _ _ P2.out (by decide)).mono ?_
  rintro e w3 ⟨rfl, hb3⟩
  rw [show vecP (medianOf [(1, 2)] 3 0) = vecV 1 2 from by rfl]
  have HB3 := hide hb3
  clear hb3
  go_wp2_with fail
  go_ret
  have B1 : Below w.heap.size w w1 := (below_alloc (Below.refl _ _) _).trans (HB1.out.mono (by simp))
  have B2 : Below w.heap.size w w2 := B1.trans (HB2.out.mono B1.size)
  have B3 : Below w.heap.size w w3 := (below_alloc B2 _).trans (HB3.out.mono (below_alloc B2 _).size)
  exact ⟨rfl, B3⟩
end Go.Proofs.Ytimkedfdeghmnaa
