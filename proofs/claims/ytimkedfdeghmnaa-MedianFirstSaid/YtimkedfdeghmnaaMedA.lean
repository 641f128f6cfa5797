/- The walks of the package 'median' and of its reference. -/
import Derived.Test.YtimkedfdeghmnaaWholeA
import Derived.Test.YtimkedfdeghmnaaOpen
import Derived.RegionTactic
import Derived.BigRegion
import Derived.Outline
namespace Go.Proofs.Ytimkedfdeghmnaa
open Go.RowKit
attribute [local go_sem] setCell_drewN alloc_drewN

/-- A vector as a value. -/
abbrev vecV (x y : Int) : Value := .agg #[.int .i64 x, .int .i64 y]

/-- A slice of vectors as it lies: where it has an element, a row of two cells each. -/
def IsPairs (w : World) (a : Option Addr) (l : List (Int × Int)) : Prop :=
  l ≠ [] → ∃ b off, a = some ⟨b, off, none⟩ ∧ b < w.heap.size ∧ ∀ i, i < l.length → w.cell? ⟨b, off + i * 2, none⟩ = some (.int .i64 (vat l i).1) ∧ w.cell? ⟨b, off + i * 2 + 1, none⟩ = some (.int .i64 (vat l i).2)

/-- What the call leaves of the world: the old blocks as they were. -/
theorem below3 {w : World} (o1 o2 o3 : Obj) (n : Nat) : Below w.heap.size w ((((w.alloc o1).alloc o2).alloc o3).drewN n) :=
  below_drewN (below_alloc (below_alloc (below_alloc (Below.refl _ _) _) _) _) _

theorem around_top_col_p (b off : Nat) (n cap m : Nat) (first x0 y0 : Int) (w : World) (hb : b < w.heap.size) (hn : n ≤ 500) (hm : 1 ≤ m) (hcol : 0 < (n : Int) % (m : Int)) (hn1 : 0 < (n : Int)) (hl : (n : Int) / (m : Int) ≤ first) (hf : 0 ≤ first) (h0 : w.cell? ⟨b, off + (n - 1) * 2, none⟩ = some (.int .i64 x0)) (g0 : w.cell? ⟨b, off + (n - 1) * 2 + 1, none⟩ = some (.int .i64 y0)) :
    Calls Try.prog 23 #[.slice (some ⟨b, off, none⟩) n cap, .int .i64 (m : Int), .int .i64 first] w fun e w' =>
      e = .returned (.tuple #[vecV x0 y0, vecV x0 y0, vecV x0 y0]) ∧ Below w.heap.size w w' := by
  have hb1 : b < w.heap.size + 1 := by omega
  have hb2 : b < w.heap.size + 1 + 1 := by omega
  have hd0 : 0 ≤ (n : Int) / (m : Int) := Int.ediv_nonneg (by omega) (by omega)
  have hd1 : (n : Int) / (m : Int) ≤ 500 := Int.le_trans (Int.ediv_le_self _ (by omega)) (by omega)
  have hm0 : ((m : Int) == 0) = false := by rw [beq_eq_false_iff_ne]; omega
  have hm1 : 0 < (m : Int) := by omega
  have hr0 : 0 ≤ (n : Int) % (m : Int) := Int.emod_nonneg _ (by omega)
  go_enter Try.func23, Try.ntmps23
  go_wp2_with fail
  go_quiet (fail)
  go_wp2
  exact bodyPost_ret (v := .tuple #[vecV x0 y0, vecV x0 y0, vecV x0 y0]) (by simp [results, Try.results23, go_sem]) rfl ⟨rfl, below3 _ _ _ _⟩

theorem around_top_edge_p (a : Option Addr) (n cap m : Nat) (first : Int) (w : World) (hn : n ≤ 500) (hm : 1 ≤ m) (hcol : (n : Int) % (m : Int) ≤ 0) (hl : (n : Int) / (m : Int) ≤ first) (hf : 0 ≤ first) :
    Calls Try.prog 23 #[.slice a n cap, .int .i64 (m : Int), .int .i64 first] w fun e w' =>
      e = .returned (.tuple #[vecV 0 0, vecV 0 0, vecV 0 0]) ∧ Below w.heap.size w w' := by
  have hd0 : 0 ≤ (n : Int) / (m : Int) := Int.ediv_nonneg (by omega) (by omega)
  have hd1 : (n : Int) / (m : Int) ≤ 500 := Int.le_trans (Int.ediv_le_self _ (by omega)) (by omega)
  have hm0 : ((m : Int) == 0) = false := by rw [beq_eq_false_iff_ne]; omega
  have hm1 : 0 < (m : Int) := by omega
  have hr0 : 0 ≤ (n : Int) % (m : Int) := Int.emod_nonneg _ (by omega)
  go_enter Try.func23, Try.ntmps23
  go_wp2_with fail
  go_quiet (fail)
  go_wp2
  exact bodyPost_ret (v := .tuple #[vecV 0 0, vecV 0 0, vecV 0 0]) (by simp [results, Try.results23, go_sem]) rfl ⟨rfl, below3 _ _ _ _⟩

theorem around_low_col_mid_p (b off : Nat) (n cap m : Nat) (first x0 y0 x1 y1 x2 y2 : Int) (w : World) (hb : b < w.heap.size) (hn : n ≤ 500) (hm : 1 ≤ m) (hcol : 0 < (n : Int) % (m : Int)) (hn1 : 0 < (n : Int)) (hl : first < (n : Int) / (m : Int)) (hf : 0 ≤ first) (hc : (n : Int) % (m : Int) < (m : Int) - 1) (hmn : (m : Int) ≤ (n : Int)) (h0 : w.cell? ⟨b, off + (n - 1) * 2, none⟩ = some (.int .i64 x0)) (g0 : w.cell? ⟨b, off + (n - 1) * 2 + 1, none⟩ = some (.int .i64 y0)) (h1 : w.cell? ⟨b, off + (n - m) * 2, none⟩ = some (.int .i64 x1)) (g1 : w.cell? ⟨b, off + (n - m) * 2 + 1, none⟩ = some (.int .i64 y1)) (h2 : w.cell? ⟨b, off + (n - m + 1) * 2, none⟩ = some (.int .i64 x2)) (g2 : w.cell? ⟨b, off + (n - m + 1) * 2 + 1, none⟩ = some (.int .i64 y2)) :
    Calls Try.prog 23 #[.slice (some ⟨b, off, none⟩) n cap, .int .i64 (m : Int), .int .i64 first] w fun e w' =>
      e = .returned (.tuple #[vecV x0 y0, vecV x1 y1, vecV x2 y2]) ∧ Below w.heap.size w w' := by
  have hb1 : b < w.heap.size + 1 := by omega
  have hb2 : b < w.heap.size + 1 + 1 := by omega
  have hd0 : 0 ≤ (n : Int) / (m : Int) := Int.ediv_nonneg (by omega) (by omega)
  have hd1 : (n : Int) / (m : Int) ≤ 500 := Int.le_trans (Int.ediv_le_self _ (by omega)) (by omega)
  have hm0 : ((m : Int) == 0) = false := by rw [beq_eq_false_iff_ne]; omega
  have hm1 : 0 < (m : Int) := by omega
  have hr0 : 0 ≤ (n : Int) % (m : Int) := Int.emod_nonneg _ (by omega)
  go_enter Try.func23, Try.ntmps23
  go_wp2_with fail
  go_quiet (fail)
  go_wp2
  go_region
  go_wp2
  exact bodyPost_ret (v := .tuple #[vecV x0 y0, vecV x1 y1, vecV x2 y2]) (by simp [results, Try.results23, go_sem]) rfl ⟨rfl, below3 _ _ _ _⟩

theorem around_low_col_end_p (b off : Nat) (n cap m : Nat) (first x0 y0 x1 y1 : Int) (w : World) (hb : b < w.heap.size) (hn : n ≤ 500) (hm : 1 ≤ m) (hcol : 0 < (n : Int) % (m : Int)) (hn1 : 0 < (n : Int)) (hl : first < (n : Int) / (m : Int)) (hf : 0 ≤ first) (hc : (m : Int) - 1 ≤ (n : Int) % (m : Int)) (hmn : (m : Int) ≤ (n : Int)) (h0 : w.cell? ⟨b, off + (n - 1) * 2, none⟩ = some (.int .i64 x0)) (g0 : w.cell? ⟨b, off + (n - 1) * 2 + 1, none⟩ = some (.int .i64 y0)) (h1 : w.cell? ⟨b, off + (n - m) * 2, none⟩ = some (.int .i64 x1)) (g1 : w.cell? ⟨b, off + (n - m) * 2 + 1, none⟩ = some (.int .i64 y1)) :
    Calls Try.prog 23 #[.slice (some ⟨b, off, none⟩) n cap, .int .i64 (m : Int), .int .i64 first] w fun e w' =>
      e = .returned (.tuple #[vecV x0 y0, vecV x1 y1, vecV 0 0]) ∧ Below w.heap.size w w' := by
  have hb1 : b < w.heap.size + 1 := by omega
  have hb2 : b < w.heap.size + 1 + 1 := by omega
  have hd0 : 0 ≤ (n : Int) / (m : Int) := Int.ediv_nonneg (by omega) (by omega)
  have hd1 : (n : Int) / (m : Int) ≤ 500 := Int.le_trans (Int.ediv_le_self _ (by omega)) (by omega)
  have hm0 : ((m : Int) == 0) = false := by rw [beq_eq_false_iff_ne]; omega
  have hm1 : 0 < (m : Int) := by omega
  have hr0 : 0 ≤ (n : Int) % (m : Int) := Int.emod_nonneg _ (by omega)
  go_enter Try.func23, Try.ntmps23
  go_wp2_with fail
  go_quiet (fail)
  go_wp2
  go_region
  go_wp2
  exact bodyPost_ret (v := .tuple #[vecV x0 y0, vecV x1 y1, vecV 0 0]) (by simp [results, Try.results23, go_sem]) rfl ⟨rfl, below3 _ _ _ _⟩

theorem around_low_edge_mid_p (b off : Nat) (n cap m : Nat) (first x1 y1 x2 y2 : Int) (w : World) (hb : b < w.heap.size) (hn : n ≤ 500) (hm : 1 ≤ m) (hcol : (n : Int) % (m : Int) ≤ 0) (hn1 : 0 < (n : Int)) (hl : first < (n : Int) / (m : Int)) (hf : 0 ≤ first) (hc : (n : Int) % (m : Int) < (m : Int) - 1) (hmn : (m : Int) ≤ (n : Int)) (h0 : w.cell? ⟨b, off + (n - m) * 2, none⟩ = some (.int .i64 x1)) (g0 : w.cell? ⟨b, off + (n - m) * 2 + 1, none⟩ = some (.int .i64 y1)) (h1 : w.cell? ⟨b, off + (n - m + 1) * 2, none⟩ = some (.int .i64 x2)) (g1 : w.cell? ⟨b, off + (n - m + 1) * 2 + 1, none⟩ = some (.int .i64 y2)) :
    Calls Try.prog 23 #[.slice (some ⟨b, off, none⟩) n cap, .int .i64 (m : Int), .int .i64 first] w fun e w' =>
      e = .returned (.tuple #[vecV 0 0, vecV x1 y1, vecV x2 y2]) ∧ Below w.heap.size w w' := by
  have hb1 : b < w.heap.size + 1 := by omega
  have hb2 : b < w.heap.size + 1 + 1 := by omega
  have hd0 : 0 ≤ (n : Int) / (m : Int) := Int.ediv_nonneg (by omega) (by omega)
  have hd1 : (n : Int) / (m : Int) ≤ 500 := Int.le_trans (Int.ediv_le_self _ (by omega)) (by omega)
  have hm0 : ((m : Int) == 0) = false := by rw [beq_eq_false_iff_ne]; omega
  have hm1 : 0 < (m : Int) := by omega
  have hr0 : 0 ≤ (n : Int) % (m : Int) := Int.emod_nonneg _ (by omega)
  go_enter Try.func23, Try.ntmps23
  go_wp2_with fail
  go_quiet (fail)
  go_wp2
  go_region
  go_wp2
  exact bodyPost_ret (v := .tuple #[vecV 0 0, vecV x1 y1, vecV x2 y2]) (by simp [results, Try.results23, go_sem]) rfl ⟨rfl, below3 _ _ _ _⟩

theorem around_low_edge_end_p (b off : Nat) (n cap m : Nat) (first x1 y1 : Int) (w : World) (hb : b < w.heap.size) (hn : n ≤ 500) (hm : 1 ≤ m) (hcol : (n : Int) % (m : Int) ≤ 0) (hn1 : 0 < (n : Int)) (hl : first < (n : Int) / (m : Int)) (hf : 0 ≤ first) (hc : (m : Int) - 1 ≤ (n : Int) % (m : Int)) (hmn : (m : Int) ≤ (n : Int)) (h0 : w.cell? ⟨b, off + (n - m) * 2, none⟩ = some (.int .i64 x1)) (g0 : w.cell? ⟨b, off + (n - m) * 2 + 1, none⟩ = some (.int .i64 y1)) :
    Calls Try.prog 23 #[.slice (some ⟨b, off, none⟩) n cap, .int .i64 (m : Int), .int .i64 first] w fun e w' =>
      e = .returned (.tuple #[vecV 0 0, vecV x1 y1, vecV 0 0]) ∧ Below w.heap.size w w' := by
  have hb1 : b < w.heap.size + 1 := by omega
  have hb2 : b < w.heap.size + 1 + 1 := by omega
  have hd0 : 0 ≤ (n : Int) / (m : Int) := Int.ediv_nonneg (by omega) (by omega)
  have hd1 : (n : Int) / (m : Int) ≤ 500 := Int.le_trans (Int.ediv_le_self _ (by omega)) (by omega)
  have hm0 : ((m : Int) == 0) = false := by rw [beq_eq_false_iff_ne]; omega
  have hm1 : 0 < (m : Int) := by omega
  have hr0 : 0 ≤ (n : Int) % (m : Int) := Int.emod_nonneg _ (by omega)
  go_enter Try.func23, Try.ntmps23
  go_wp2_with fail
  go_quiet (fail)
  go_wp2
  go_region
  go_wp2
  exact bodyPost_ret (v := .tuple #[vecV 0 0, vecV x1 y1, vecV 0 0]) (by simp [results, Try.results23, go_sem]) rfl ⟨rfl, below3 _ _ _ _⟩

theorem around_top_col_n (b off : Nat) (n cap m : Nat) (first x0 y0 : Int) (w : World) (hb : b < w.heap.size) (hn : n ≤ 500) (hm : 1 ≤ m) (hcol : 0 < (n : Int) % (m : Int)) (hn1 : 0 < (n : Int)) (hl : (n : Int) / (m : Int) ≤ 0) (hf : first < 0) (h0 : w.cell? ⟨b, off + (n - 1) * 2, none⟩ = some (.int .i64 x0)) (g0 : w.cell? ⟨b, off + (n - 1) * 2 + 1, none⟩ = some (.int .i64 y0)) :
    Calls Try.prog 23 #[.slice (some ⟨b, off, none⟩) n cap, .int .i64 (m : Int), .int .i64 first] w fun e w' =>
      e = .returned (.tuple #[vecV x0 y0, vecV x0 y0, vecV x0 y0]) ∧ Below w.heap.size w w' := by
  have hb1 : b < w.heap.size + 1 := by omega
  have hb2 : b < w.heap.size + 1 + 1 := by omega
  have hd0 : 0 ≤ (n : Int) / (m : Int) := Int.ediv_nonneg (by omega) (by omega)
  have hd1 : (n : Int) / (m : Int) ≤ 500 := Int.le_trans (Int.ediv_le_self _ (by omega)) (by omega)
  have hm0 : ((m : Int) == 0) = false := by rw [beq_eq_false_iff_ne]; omega
  have hm1 : 0 < (m : Int) := by omega
  have hr0 : 0 ≤ (n : Int) % (m : Int) := Int.emod_nonneg _ (by omega)
  go_enter Try.func23, Try.ntmps23
  go_wp2_with fail
  go_quiet (fail)
  go_wp2
  exact bodyPost_ret (v := .tuple #[vecV x0 y0, vecV x0 y0, vecV x0 y0]) (by simp [results, Try.results23, go_sem]) rfl ⟨rfl, below3 _ _ _ _⟩

theorem around_top_edge_n (a : Option Addr) (n cap m : Nat) (first : Int) (w : World) (hn : n ≤ 500) (hm : 1 ≤ m) (hcol : (n : Int) % (m : Int) ≤ 0) (hl : (n : Int) / (m : Int) ≤ 0) (hf : first < 0) :
    Calls Try.prog 23 #[.slice a n cap, .int .i64 (m : Int), .int .i64 first] w fun e w' =>
      e = .returned (.tuple #[vecV 0 0, vecV 0 0, vecV 0 0]) ∧ Below w.heap.size w w' := by
  have hd0 : 0 ≤ (n : Int) / (m : Int) := Int.ediv_nonneg (by omega) (by omega)
  have hd1 : (n : Int) / (m : Int) ≤ 500 := Int.le_trans (Int.ediv_le_self _ (by omega)) (by omega)
  have hm0 : ((m : Int) == 0) = false := by rw [beq_eq_false_iff_ne]; omega
  have hm1 : 0 < (m : Int) := by omega
  have hr0 : 0 ≤ (n : Int) % (m : Int) := Int.emod_nonneg _ (by omega)
  go_enter Try.func23, Try.ntmps23
  go_wp2_with fail
  go_quiet (fail)
  go_wp2
  exact bodyPost_ret (v := .tuple #[vecV 0 0, vecV 0 0, vecV 0 0]) (by simp [results, Try.results23, go_sem]) rfl ⟨rfl, below3 _ _ _ _⟩

theorem around_low_col_mid_n (b off : Nat) (n cap m : Nat) (first x0 y0 x1 y1 x2 y2 : Int) (w : World) (hb : b < w.heap.size) (hn : n ≤ 500) (hm : 1 ≤ m) (hcol : 0 < (n : Int) % (m : Int)) (hn1 : 0 < (n : Int)) (hl : 0 < (n : Int) / (m : Int)) (hf : first < 0) (hc : (n : Int) % (m : Int) < (m : Int) - 1) (hmn : (m : Int) ≤ (n : Int)) (h0 : w.cell? ⟨b, off + (n - 1) * 2, none⟩ = some (.int .i64 x0)) (g0 : w.cell? ⟨b, off + (n - 1) * 2 + 1, none⟩ = some (.int .i64 y0)) (h1 : w.cell? ⟨b, off + (n - m) * 2, none⟩ = some (.int .i64 x1)) (g1 : w.cell? ⟨b, off + (n - m) * 2 + 1, none⟩ = some (.int .i64 y1)) (h2 : w.cell? ⟨b, off + (n - m + 1) * 2, none⟩ = some (.int .i64 x2)) (g2 : w.cell? ⟨b, off + (n - m + 1) * 2 + 1, none⟩ = some (.int .i64 y2)) :
    Calls Try.prog 23 #[.slice (some ⟨b, off, none⟩) n cap, .int .i64 (m : Int), .int .i64 first] w fun e w' =>
      e = .returned (.tuple #[vecV x0 y0, vecV x1 y1, vecV x2 y2]) ∧ Below w.heap.size w w' := by
  have hb1 : b < w.heap.size + 1 := by omega
  have hb2 : b < w.heap.size + 1 + 1 := by omega
  have hd0 : 0 ≤ (n : Int) / (m : Int) := Int.ediv_nonneg (by omega) (by omega)
  have hd1 : (n : Int) / (m : Int) ≤ 500 := Int.le_trans (Int.ediv_le_self _ (by omega)) (by omega)
  have hm0 : ((m : Int) == 0) = false := by rw [beq_eq_false_iff_ne]; omega
  have hm1 : 0 < (m : Int) := by omega
  have hr0 : 0 ≤ (n : Int) % (m : Int) := Int.emod_nonneg _ (by omega)
  go_enter Try.func23, Try.ntmps23
  go_wp2_with fail
  go_quiet (fail)
  go_wp2
  go_region
  go_wp2
  exact bodyPost_ret (v := .tuple #[vecV x0 y0, vecV x1 y1, vecV x2 y2]) (by simp [results, Try.results23, go_sem]) rfl ⟨rfl, below3 _ _ _ _⟩

theorem around_low_col_end_n (b off : Nat) (n cap m : Nat) (first x0 y0 x1 y1 : Int) (w : World) (hb : b < w.heap.size) (hn : n ≤ 500) (hm : 1 ≤ m) (hcol : 0 < (n : Int) % (m : Int)) (hn1 : 0 < (n : Int)) (hl : 0 < (n : Int) / (m : Int)) (hf : first < 0) (hc : (m : Int) - 1 ≤ (n : Int) % (m : Int)) (hmn : (m : Int) ≤ (n : Int)) (h0 : w.cell? ⟨b, off + (n - 1) * 2, none⟩ = some (.int .i64 x0)) (g0 : w.cell? ⟨b, off + (n - 1) * 2 + 1, none⟩ = some (.int .i64 y0)) (h1 : w.cell? ⟨b, off + (n - m) * 2, none⟩ = some (.int .i64 x1)) (g1 : w.cell? ⟨b, off + (n - m) * 2 + 1, none⟩ = some (.int .i64 y1)) :
    Calls Try.prog 23 #[.slice (some ⟨b, off, none⟩) n cap, .int .i64 (m : Int), .int .i64 first] w fun e w' =>
      e = .returned (.tuple #[vecV x0 y0, vecV x1 y1, vecV 0 0]) ∧ Below w.heap.size w w' := by
  have hb1 : b < w.heap.size + 1 := by omega
  have hb2 : b < w.heap.size + 1 + 1 := by omega
  have hd0 : 0 ≤ (n : Int) / (m : Int) := Int.ediv_nonneg (by omega) (by omega)
  have hd1 : (n : Int) / (m : Int) ≤ 500 := Int.le_trans (Int.ediv_le_self _ (by omega)) (by omega)
  have hm0 : ((m : Int) == 0) = false := by rw [beq_eq_false_iff_ne]; omega
  have hm1 : 0 < (m : Int) := by omega
  have hr0 : 0 ≤ (n : Int) % (m : Int) := Int.emod_nonneg _ (by omega)
  go_enter Try.func23, Try.ntmps23
  go_wp2_with fail
  go_quiet (fail)
  go_wp2
  go_region
  go_wp2
  exact bodyPost_ret (v := .tuple #[vecV x0 y0, vecV x1 y1, vecV 0 0]) (by simp [results, Try.results23, go_sem]) rfl ⟨rfl, below3 _ _ _ _⟩

theorem around_low_edge_mid_n (b off : Nat) (n cap m : Nat) (first x1 y1 x2 y2 : Int) (w : World) (hb : b < w.heap.size) (hn : n ≤ 500) (hm : 1 ≤ m) (hcol : (n : Int) % (m : Int) ≤ 0) (hn1 : 0 < (n : Int)) (hl : 0 < (n : Int) / (m : Int)) (hf : first < 0) (hc : (n : Int) % (m : Int) < (m : Int) - 1) (hmn : (m : Int) ≤ (n : Int)) (h0 : w.cell? ⟨b, off + (n - m) * 2, none⟩ = some (.int .i64 x1)) (g0 : w.cell? ⟨b, off + (n - m) * 2 + 1, none⟩ = some (.int .i64 y1)) (h1 : w.cell? ⟨b, off + (n - m + 1) * 2, none⟩ = some (.int .i64 x2)) (g1 : w.cell? ⟨b, off + (n - m + 1) * 2 + 1, none⟩ = some (.int .i64 y2)) :
    Calls Try.prog 23 #[.slice (some ⟨b, off, none⟩) n cap, .int .i64 (m : Int), .int .i64 first] w fun e w' =>
      e = .returned (.tuple #[vecV 0 0, vecV x1 y1, vecV x2 y2]) ∧ Below w.heap.size w w' := by
  have hb1 : b < w.heap.size + 1 := by omega
  have hb2 : b < w.heap.size + 1 + 1 := by omega
  have hd0 : 0 ≤ (n : Int) / (m : Int) := Int.ediv_nonneg (by omega) (by omega)
  have hd1 : (n : Int) / (m : Int) ≤ 500 := Int.le_trans (Int.ediv_le_self _ (by omega)) (by omega)
  have hm0 : ((m : Int) == 0) = false := by rw [beq_eq_false_iff_ne]; omega
  have hm1 : 0 < (m : Int) := by omega
  have hr0 : 0 ≤ (n : Int) % (m : Int) := Int.emod_nonneg _ (by omega)
  go_enter Try.func23, Try.ntmps23
  go_wp2_with fail
  go_quiet (fail)
  go_wp2
  go_region
  go_wp2
  exact bodyPost_ret (v := .tuple #[vecV 0 0, vecV x1 y1, vecV x2 y2]) (by simp [results, Try.results23, go_sem]) rfl ⟨rfl, below3 _ _ _ _⟩

theorem around_low_edge_end_n (b off : Nat) (n cap m : Nat) (first x1 y1 : Int) (w : World) (hb : b < w.heap.size) (hn : n ≤ 500) (hm : 1 ≤ m) (hcol : (n : Int) % (m : Int) ≤ 0) (hn1 : 0 < (n : Int)) (hl : 0 < (n : Int) / (m : Int)) (hf : first < 0) (hc : (m : Int) - 1 ≤ (n : Int) % (m : Int)) (hmn : (m : Int) ≤ (n : Int)) (h0 : w.cell? ⟨b, off + (n - m) * 2, none⟩ = some (.int .i64 x1)) (g0 : w.cell? ⟨b, off + (n - m) * 2 + 1, none⟩ = some (.int .i64 y1)) :
    Calls Try.prog 23 #[.slice (some ⟨b, off, none⟩) n cap, .int .i64 (m : Int), .int .i64 first] w fun e w' =>
      e = .returned (.tuple #[vecV 0 0, vecV x1 y1, vecV 0 0]) ∧ Below w.heap.size w w' := by
  have hb1 : b < w.heap.size + 1 := by omega
  have hb2 : b < w.heap.size + 1 + 1 := by omega
  have hd0 : 0 ≤ (n : Int) / (m : Int) := Int.ediv_nonneg (by omega) (by omega)
  have hd1 : (n : Int) / (m : Int) ≤ 500 := Int.le_trans (Int.ediv_le_self _ (by omega)) (by omega)
  have hm0 : ((m : Int) == 0) = false := by rw [beq_eq_false_iff_ne]; omega
  have hm1 : 0 < (m : Int) := by omega
  have hr0 : 0 ≤ (n : Int) % (m : Int) := Int.emod_nonneg _ (by omega)
  go_enter Try.func23, Try.ntmps23
  go_wp2_with fail
  go_quiet (fail)
  go_wp2
  go_region
  go_wp2
  exact bodyPost_ret (v := .tuple #[vecV 0 0, vecV x1 y1, vecV 0 0]) (by simp [results, Try.results23, go_sem]) rfl ⟨rfl, below3 _ _ _ _⟩

end Go.Proofs.Ytimkedfdeghmnaa
