/- The walk of the reference of median: at, Of. -/
import Derived.Test.YtimkedfdeghmnaaMedC
namespace Go.Proofs.Ytimkedfdeghmnaa
open Go.RowKit
attribute [local go_sem] setCell_drewN alloc_drewN

theorem at_low (a : Option Addr) (n cap : Nat) (across column line : Int) (w : World) (h : column < 0) :
    Calls Try.prog 24 #[.slice a n cap, .int .i64 across, .int .i64 column, .int .i64 line] w fun e w' => e = .returned (vecV 0 0) ∧ Below w.heap.size w w' := by
  go_enter Try.func24, Try.ntmps24
  go_wp2_with fail
  exact bodyPost_ret (v := vecV 0 0) (by simp [results, Try.results24, go_sem]) rfl ⟨rfl, below_alloc (Below.refl _ _) _⟩

theorem at_high (a : Option Addr) (n cap : Nat) (across column line : Int) (w : World) (h0 : 0 ≤ column) (h : across ≤ column) :
    Calls Try.prog 24 #[.slice a n cap, .int .i64 across, .int .i64 column, .int .i64 line] w fun e w' => e = .returned (vecV 0 0) ∧ Below w.heap.size w w' := by
  go_enter Try.func24, Try.ntmps24
  go_wp2_with fail
  exact bodyPost_ret (v := vecV 0 0) (by simp [results, Try.results24, go_sem]) rfl ⟨rfl, below_alloc (Below.refl _ _) _⟩

theorem at_in (b off n cap : Nat) (across column line x y : Int) (w : World) (hb : b < w.heap.size) (h0 : 0 ≤ column) (h : column < across) (hp0 : 0 ≤ line * across) (hp1 : line * across ≤ 500)
    (hi1 : line * across + column < (n : Int)) (hn : n ≤ 500)
    (c0 : w.cell? ⟨b, off + (line * across + column).toNat * 2, none⟩ = some (.int .i64 x)) (c1 : w.cell? ⟨b, off + (line * across + column).toNat * 2 + 1, none⟩ = some (.int .i64 y)) :
    Calls Try.prog 24 #[.slice (some ⟨b, off, none⟩) n cap, .int .i64 across, .int .i64 column, .int .i64 line] w fun e w' => e = .returned (vecV x y) ∧ Below w.heap.size w w' := by
  go_enter Try.func24, Try.ntmps24
  go_wp2_with fail
  exact bodyPost_ret (v := vecV x y) (by simp [results, Try.results24, go_sem]) rfl ⟨rfl, below_alloc (Below.refl _ _) _⟩

/-- Block b holds a vector. -/
def IsVec (w : World) (b : Nat) (x y : Int) : Prop :=
  w.cell? ⟨b, 0, none⟩ = some (.int .i64 x) ∧ w.cell? ⟨b, 1, none⟩ = some (.int .i64 y) ∧ w.frozen? ⟨b, 0, none⟩ = false ∧ w.frozen? ⟨b, 1, none⟩ = false ∧ b < w.heap.size

theorem IsVec.below {w w' : World} {b B : Nat} {x y : Int} (h : IsVec w b x y) (hb : Below B w w') (hB : b < B) : IsVec w' b x y := by
  obtain ⟨h1, h2, h3, h4, h5⟩ := h
  exact ⟨by rw [hb.cell hB]; exact h1, by rw [hb.cell hB]; exact h2, by rw [hb.frozen hB]; exact h3, by rw [hb.frozen hB]; exact h4, Nat.lt_of_lt_of_le h5 hb.size⟩
theorem IsVec.new (w : World) (x y : Int) : IsVec (w.alloc (.cells #[.int .i64 x, .int .i64 y] 24)) w.heap.size x y :=
  ⟨by simp [go_sem], by simp [go_sem], by simp [go_sem], by simp [go_sem], by simp⟩
theorem IsVec.alloc {w : World} {b : Nat} {x y : Int} (h : IsVec w b x y) (o : Obj) : IsVec (w.alloc o) b x y :=
  h.below (below_alloc (Below.refl _ _) o) h.2.2.2.2
theorem IsVec.set {w : World} {b : Nat} {x y : Int} (h : IsVec w b x y) (x' y' : Int) : IsVec ((w.setCell ⟨b, 0, none⟩ (.int .i64 x')).setCell ⟨b, 1, none⟩ (.int .i64 y')) b x' y' := by
  obtain ⟨h1, h2, h3, h4, h5⟩ := h
  exact ⟨by simp [go_sem, h1], by simp [go_sem, h2], by simp [go_sem, h3], by simp [go_sem, h4], by simpa [World.setCell] using h5⟩
theorem IsVec.other {w : World} {b c : Nat} {x y : Int} (h : IsVec w b x y) (hc : b ≠ c) (u v : Value) : IsVec ((w.setCell ⟨c, 0, none⟩ u).setCell ⟨c, 1, none⟩ v) b x y := by
  have hb0 : ((w.setCell ⟨c, 0, none⟩ u).setCell ⟨c, 1, none⟩ v).heap[b]? = w.heap[b]? := by
    rw [Below.heap_setCell _ _ _ _ hc, Below.heap_setCell _ _ _ _ hc]
  obtain ⟨h1, h2, h3, h4, h5⟩ := h
  refine ⟨?_, ?_, ?_, ?_, by simpa [World.setCell] using h5⟩
  · rw [World.cell?_of_block (w := w) hb0]; exact h1
  · rw [World.cell?_of_block (w := w) hb0]; exact h2
  · rw [World.frozen?_of_block (w := w) hb0]; exact h3
  · rw [World.frozen?_of_block (w := w) hb0]; exact h4
end Go.Proofs.Ytimkedfdeghmnaa
