/- The reference's weights. -/
import Derived.Test.YtimkedfdeghmnaaDoorBoth
namespace Go.Proofs.YtimkedfdeghmnaaDoor
open Go.RowKit
set_option linter.unusedVariables false
set_option linter.unusedSimpArgs false
attribute [local go_sem] setCell_drewN alloc_drewN
attribute [local irreducible] wpList wpStill

def htab : List Int := [64, 64, 64, 64, 89, 75, 50, 18, 83, 36, -36, -83, 75, -18, -89, -50, 64, -64, -64, 64, 50, -89, 18, 75, 36, -83, 83, -36, 18, -50, 75, -89]
def half (u x : Nat) : Int := htab.getD (u * 4 + x) 0
theorem wt_half : ∀ u, u < 8 → ∀ x, x < 8 → wt u x = if x < 4 then half u x else if u % 2 = 1 then -half u (7 - x) else half u (7 - x) := by decide
theorem half_bd (u x : Nat) : -89 ≤ half u x ∧ half u x ≤ 89 := by
  have h : ∀ v ∈ htab, -89 ≤ v ∧ v ≤ 89 := by decide
  unfold half
  rw [List.getD_eq_getElem?_getD]
  rcases Nat.lt_or_ge (u * 4 + x) htab.length with h1 | h1
  · rw [List.getElem?_eq_getElem h1]; exact h _ (List.getElem_mem h1)
  · rw [List.getElem?_eq_none h1]; decide
theorem half_cell (u x : Nat) (hu : u < 8) (hx : x < 4) : ((Value.int .i64 64 :: Value.int .i64 64 :: Value.int .i64 64 :: Value.int .i64 64 :: Value.int .i64 89 :: Value.int .i64 75 :: Value.int .i64 50 :: Value.int .i64 18 :: Value.int .i64 83 :: Value.int .i64 36 :: Value.int .i64 (-36) :: Value.int .i64 (-83) :: Value.int .i64 75 :: Value.int .i64 (-18) :: Value.int .i64 (-89) :: Value.int .i64 (-50) :: Value.int .i64 64 :: Value.int .i64 (-64) :: Value.int .i64 (-64) :: Value.int .i64 64 :: Value.int .i64 50 :: Value.int .i64 (-89) :: Value.int .i64 18 :: Value.int .i64 75 :: Value.int .i64 36 :: Value.int .i64 (-83) :: Value.int .i64 83 :: Value.int .i64 (-36) :: Value.int .i64 18 :: Value.int .i64 (-50) :: Value.int .i64 75 :: Value.int .i64 (-89) :: []) : List Value)[u * 4 + x]? = some (.int .i64 (half u x)) := by
  have e : ((Value.int .i64 64 :: Value.int .i64 64 :: Value.int .i64 64 :: Value.int .i64 64 :: Value.int .i64 89 :: Value.int .i64 75 :: Value.int .i64 50 :: Value.int .i64 18 :: Value.int .i64 83 :: Value.int .i64 36 :: Value.int .i64 (-36) :: Value.int .i64 (-83) :: Value.int .i64 75 :: Value.int .i64 (-18) :: Value.int .i64 (-89) :: Value.int .i64 (-50) :: Value.int .i64 64 :: Value.int .i64 (-64) :: Value.int .i64 (-64) :: Value.int .i64 64 :: Value.int .i64 50 :: Value.int .i64 (-89) :: Value.int .i64 18 :: Value.int .i64 75 :: Value.int .i64 36 :: Value.int .i64 (-83) :: Value.int .i64 83 :: Value.int .i64 (-36) :: Value.int .i64 18 :: Value.int .i64 (-50) :: Value.int .i64 75 :: Value.int .i64 (-89) :: []) : List Value) = htab.map (Value.int .i64) := by kernel_rfl
  rw [e]
  have hl : u * 4 + x < htab.length := by show _ < 32; omega
  rw [List.getElem?_map, List.getElem?_eq_getElem hl]
  unfold half
  rw [List.getD_eq_getElem?_getD, List.getElem?_eq_getElem hl]
  rfl

theorem size39 : (Tryd.prog.info? 39).map (·.size) = some 32 := by kernel_rfl
/-- The table, made. -/
theorem half_new (w : World) (u x : Nat) (hu : u < 8) (hx : x < 4) : (w.alloc (.cells (htab.map (Value.int .i64)).toArray 39)).cell? ⟨w.heap.size, u * 4 + x, none⟩ = some (.int .i64 (half u x)) := by
  rw [cell_of_row _ _ (u * 4 + x) _ 39 (0, 0) (heap_alloc_new w _)]
  have hl : u * 4 + x < htab.length := by show _ < 32; omega
  rw [List.getElem?_toArray, List.getElem?_map, List.getElem?_eq_getElem hl]
  unfold half
  rw [List.getD_eq_getElem?_getD, List.getElem?_eq_getElem hl]
  rfl

set_option maxHeartbeats 2000000 in
set_option maxRecDepth 100000 in
theorem weight_low (u x : Nat) (hu : u < 8) (h4 : x < 4) (w : World) : Calls Tryd.prog 23 #[.int .i64 (u : Int), .int .i64 (x : Int)] w fun e w' => e = .returned (.int .i64 (half u x)) ∧ Below w.heap.size w w' := by
  have hB := hide (below_alloc (Below.refl w.heap.size w) (.cells (htab.map (Value.int .i64)).toArray 39))
  have hc := half_new w u x hu h4
  have HC := hide hc
  clear hc
  go_enter Tryd.func23, Tryd.ntmps23
  go_wp2_with (refine wpList_store_new (op := ⟨none, _, _, _, _, _⟩) rfl 39 (.tmp 5) (.tmp 14) rfl w.heap.size rfl _ (htab.map (Value.int .i64)).toArray rfl (by kernel_rfl) (by rw [size39]; rfl) (by kernel_rfl) (by kernel_rfl) ?_; have hc := HC.out; generalize w.alloc (.cells (htab.map (Value.int .i64)).toArray 39) = w1 at hc hB ⊢)
  go_ret
  exact ⟨rfl, hB.out⟩

set_option maxHeartbeats 2000000 in
set_option maxRecDepth 100000 in
theorem weight_odd (u x : Nat) (hu : u < 8) (h4 : x < 4) (ho : u % 2 = 1) (w : World) : Calls Tryd.prog 23 #[.int .i64 (u : Int), .int .i64 (7 - (x : Int))] w fun e w' => e = .returned (.int .i64 (-half u x)) ∧ Below w.heap.size w w' := by
  have hB := hide (below_alloc (Below.refl w.heap.size w) (.cells (htab.map (Value.int .i64)).toArray 39))
  have hc := half_new w u x hu h4
  have HC := hide hc
  clear hc
  have hxx : (7 : Int) - (7 - (x : Int)) = (x : Int) := by omega
  have ho2 : ((u : Int) % 2 == 1) = true := by rw [beq_iff_eq]; omega
  have hb := half_bd u x
  go_enter Tryd.func23, Tryd.ntmps23
  go_wp2_with (refine wpList_store_new (op := ⟨none, _, _, _, _, _⟩) rfl 39 (.tmp 5) (.tmp 14) rfl w.heap.size rfl _ (htab.map (Value.int .i64)).toArray rfl (by kernel_rfl) (by rw [size39]; rfl) (by kernel_rfl) (by kernel_rfl) ?_; have hc := HC.out; generalize w.alloc (.cells (htab.map (Value.int .i64)).toArray 39) = w1 at hc hB ⊢)
  go_ret
  exact ⟨rfl, hB.out⟩

set_option maxHeartbeats 2000000 in
set_option maxRecDepth 100000 in
theorem weight_even (u x : Nat) (hu : u < 8) (h4 : x < 4) (ho : ¬ u % 2 = 1) (w : World) : Calls Tryd.prog 23 #[.int .i64 (u : Int), .int .i64 (7 - (x : Int))] w fun e w' => e = .returned (.int .i64 (half u x)) ∧ Below w.heap.size w w' := by
  have hB := hide (below_alloc (Below.refl w.heap.size w) (.cells (htab.map (Value.int .i64)).toArray 39))
  have hc := half_new w u x hu h4
  have HC := hide hc
  clear hc
  have hxx : (7 : Int) - (7 - (x : Int)) = (x : Int) := by omega
  have ho2 : ((u : Int) % 2 == 1) = false := by rw [beq_eq_false_iff_ne]; omega
  go_enter Tryd.func23, Tryd.ntmps23
  go_wp2_with (refine wpList_store_new (op := ⟨none, _, _, _, _, _⟩) rfl 39 (.tmp 5) (.tmp 14) rfl w.heap.size rfl _ (htab.map (Value.int .i64)).toArray rfl (by kernel_rfl) (by rw [size39]; rfl) (by kernel_rfl) (by kernel_rfl) ?_; have hc := HC.out; generalize w.alloc (.cells (htab.map (Value.int .i64)).toArray 39) = w1 at hc hB ⊢)
  go_ret
  exact ⟨rfl, hB.out⟩

theorem weight_call (u x : Nat) (hu : u < 8) (hx : x < 8) (w : World) : Calls Tryd.prog 23 #[.int .i64 (u : Int), .int .i64 (x : Int)] w fun e w' => e = .returned (.int .i64 (wt u x)) ∧ Below w.heap.size w w' := by
  rw [wt_half u hu x hx]
  by_cases h4 : x < 4
  · rw [if_pos h4]
    exact weight_low u x hu h4 w
  · rw [if_neg h4]
    obtain ⟨y, rfl⟩ : ∃ y, x = 7 - y := ⟨7 - x, by omega⟩
    obtain hy : y < 4 := by omega
    have e7 : 7 - (7 - y) = y := by omega
    have ex : ((7 - y : Nat) : Int) = 7 - (y : Int) := by omega
    rw [e7, ex]
    by_cases ho : u % 2 = 1
    · rw [if_pos ho]
      exact weight_odd u y hu hy ho w
    · rw [if_neg ho]
      exact weight_even u y hu hy ho w
end Go.Proofs.YtimkedfdeghmnaaDoor
