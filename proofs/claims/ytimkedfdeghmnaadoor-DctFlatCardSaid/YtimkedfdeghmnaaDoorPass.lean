/- The walk of pass: each line's sums are laid down as a column. -/
import Derived.Test.YtimkedfdeghmnaaDoorLay
namespace Go.Proofs.YtimkedfdeghmnaaDoor
open Go.RowKit
set_option linter.unusedVariables false
set_option linter.unusedSimpArgs false
attribute [local go_sem] setCell_drewN alloc_drewN
attribute [local irreducible] wpList wpStill

/-- A block while it is laid down: L lines, and K numbers of the next one. -/
def rowP (g : Nat → Nat → Int) (L K p : Nat) : Int := if p % 8 < L ∨ (p % 8 = L ∧ p / 8 < K) then g (p % 8) (p / 8) else 0
theorem rowP_set (g : Nat → Nat → Int) (L K x : Nat) (hL : L < 8) : (if x = 8 * K + L then Value.int .i64 (g L K) else Value.int .i64 (rowP g L K x)) = Value.int .i64 (rowP g L (K + 1) x) := by
  unfold rowP
  by_cases h : x = 8 * K + L
  · have e1 : x % 8 = L := by omega
    have e2 : x / 8 = K := by omega
    rw [if_pos h, e1, e2, if_pos (by omega)]
  · rw [if_neg h]
    by_cases h2 : x % 8 < L ∨ (x % 8 = L ∧ x / 8 < K)
    · rw [if_pos h2, if_pos (by omega)]
    · rw [if_neg h2, if_neg (by omega)]
theorem rowP_next (g : Nat → Nat → Int) (L : Nat) {x : Nat} (hx : x < 64) : rowP g L 8 x = rowP g (L + 1) 0 x := by
  unfold rowP
  by_cases h : x % 8 < L ∨ (x % 8 = L ∧ x / 8 < 8)
  · rw [if_pos h, if_pos (by omega)]
  · rw [if_neg h, if_neg (by omega)]
theorem rowP_all (g : Nat → Nat → Int) (x : Nat) : rowP g 8 0 x = passF g x := by
  unfold rowP passF
  rw [if_pos (by omega)]
theorem row_below {w w' : World} {b t : Nat} {f : Nat → Value} (h : w.rowIs b t 64 f) (hb : Below w.heap.size w w') : w'.rowIs b t 64 f := h.of_block (hb.block _ h.lt)

theorem start2 (w : World) : rowB ((w.alloc (.cells (List.toArray (Value.int .i64 0 :: Value.int .i64 0 :: Value.int .i64 0 :: Value.int .i64 0 :: Value.int .i64 0 :: Value.int .i64 0 :: Value.int .i64 0 :: Value.int .i64 0 :: Value.int .i64 0 :: Value.int .i64 0 :: Value.int .i64 0 :: Value.int .i64 0 :: Value.int .i64 0 :: Value.int .i64 0 :: Value.int .i64 0 :: Value.int .i64 0 :: Value.int .i64 0 :: Value.int .i64 0 :: Value.int .i64 0 :: Value.int .i64 0 :: Value.int .i64 0 :: Value.int .i64 0 :: Value.int .i64 0 :: Value.int .i64 0 :: Value.int .i64 0 :: Value.int .i64 0 :: Value.int .i64 0 :: Value.int .i64 0 :: Value.int .i64 0 :: Value.int .i64 0 :: Value.int .i64 0 :: Value.int .i64 0 :: Value.int .i64 0 :: Value.int .i64 0 :: Value.int .i64 0 :: Value.int .i64 0 :: Value.int .i64 0 :: Value.int .i64 0 :: Value.int .i64 0 :: Value.int .i64 0 :: Value.int .i64 0 :: Value.int .i64 0 :: Value.int .i64 0 :: Value.int .i64 0 :: Value.int .i64 0 :: Value.int .i64 0 :: Value.int .i64 0 :: Value.int .i64 0 :: Value.int .i64 0 :: Value.int .i64 0 :: Value.int .i64 0 :: Value.int .i64 0 :: Value.int .i64 0 :: Value.int .i64 0 :: Value.int .i64 0 :: Value.int .i64 0 :: Value.int .i64 0 :: Value.int .i64 0 :: Value.int .i64 0 :: Value.int .i64 0 :: Value.int .i64 0 :: Value.int .i64 0 :: Value.int .i64 0 :: Value.int .i64 0 :: [])) 27)).alloc (.cells (List.toArray (Value.int .i64 0 :: Value.int .i64 0 :: Value.int .i64 0 :: Value.int .i64 0 :: Value.int .i64 0 :: Value.int .i64 0 :: Value.int .i64 0 :: Value.int .i64 0 :: Value.int .i64 0 :: Value.int .i64 0 :: Value.int .i64 0 :: Value.int .i64 0 :: Value.int .i64 0 :: Value.int .i64 0 :: Value.int .i64 0 :: Value.int .i64 0 :: Value.int .i64 0 :: Value.int .i64 0 :: Value.int .i64 0 :: Value.int .i64 0 :: Value.int .i64 0 :: Value.int .i64 0 :: Value.int .i64 0 :: Value.int .i64 0 :: Value.int .i64 0 :: Value.int .i64 0 :: Value.int .i64 0 :: Value.int .i64 0 :: Value.int .i64 0 :: Value.int .i64 0 :: Value.int .i64 0 :: Value.int .i64 0 :: Value.int .i64 0 :: Value.int .i64 0 :: Value.int .i64 0 :: Value.int .i64 0 :: Value.int .i64 0 :: Value.int .i64 0 :: Value.int .i64 0 :: Value.int .i64 0 :: Value.int .i64 0 :: Value.int .i64 0 :: Value.int .i64 0 :: Value.int .i64 0 :: Value.int .i64 0 :: Value.int .i64 0 :: Value.int .i64 0 :: Value.int .i64 0 :: Value.int .i64 0 :: Value.int .i64 0 :: Value.int .i64 0 :: Value.int .i64 0 :: Value.int .i64 0 :: Value.int .i64 0 :: Value.int .i64 0 :: Value.int .i64 0 :: Value.int .i64 0 :: Value.int .i64 0 :: Value.int .i64 0 :: Value.int .i64 0 :: Value.int .i64 0 :: Value.int .i64 0 :: Value.int .i64 0 :: Value.int .i64 0 :: [])) 27)) w.heap.size 27 (fun _ => 0) ∧ rowB ((w.alloc (.cells (List.toArray (Value.int .i64 0 :: Value.int .i64 0 :: Value.int .i64 0 :: Value.int .i64 0 :: Value.int .i64 0 :: Value.int .i64 0 :: Value.int .i64 0 :: Value.int .i64 0 :: Value.int .i64 0 :: Value.int .i64 0 :: Value.int .i64 0 :: Value.int .i64 0 :: Value.int .i64 0 :: Value.int .i64 0 :: Value.int .i64 0 :: Value.int .i64 0 :: Value.int .i64 0 :: Value.int .i64 0 :: Value.int .i64 0 :: Value.int .i64 0 :: Value.int .i64 0 :: Value.int .i64 0 :: Value.int .i64 0 :: Value.int .i64 0 :: Value.int .i64 0 :: Value.int .i64 0 :: Value.int .i64 0 :: Value.int .i64 0 :: Value.int .i64 0 :: Value.int .i64 0 :: Value.int .i64 0 :: Value.int .i64 0 :: Value.int .i64 0 :: Value.int .i64 0 :: Value.int .i64 0 :: Value.int .i64 0 :: Value.int .i64 0 :: Value.int .i64 0 :: Value.int .i64 0 :: Value.int .i64 0 :: Value.int .i64 0 :: Value.int .i64 0 :: Value.int .i64 0 :: Value.int .i64 0 :: Value.int .i64 0 :: Value.int .i64 0 :: Value.int .i64 0 :: Value.int .i64 0 :: Value.int .i64 0 :: Value.int .i64 0 :: Value.int .i64 0 :: Value.int .i64 0 :: Value.int .i64 0 :: Value.int .i64 0 :: Value.int .i64 0 :: Value.int .i64 0 :: Value.int .i64 0 :: Value.int .i64 0 :: Value.int .i64 0 :: Value.int .i64 0 :: Value.int .i64 0 :: Value.int .i64 0 :: Value.int .i64 0 :: Value.int .i64 0 :: [])) 27)).alloc (.cells (List.toArray (Value.int .i64 0 :: Value.int .i64 0 :: Value.int .i64 0 :: Value.int .i64 0 :: Value.int .i64 0 :: Value.int .i64 0 :: Value.int .i64 0 :: Value.int .i64 0 :: Value.int .i64 0 :: Value.int .i64 0 :: Value.int .i64 0 :: Value.int .i64 0 :: Value.int .i64 0 :: Value.int .i64 0 :: Value.int .i64 0 :: Value.int .i64 0 :: Value.int .i64 0 :: Value.int .i64 0 :: Value.int .i64 0 :: Value.int .i64 0 :: Value.int .i64 0 :: Value.int .i64 0 :: Value.int .i64 0 :: Value.int .i64 0 :: Value.int .i64 0 :: Value.int .i64 0 :: Value.int .i64 0 :: Value.int .i64 0 :: Value.int .i64 0 :: Value.int .i64 0 :: Value.int .i64 0 :: Value.int .i64 0 :: Value.int .i64 0 :: Value.int .i64 0 :: Value.int .i64 0 :: Value.int .i64 0 :: Value.int .i64 0 :: Value.int .i64 0 :: Value.int .i64 0 :: Value.int .i64 0 :: Value.int .i64 0 :: Value.int .i64 0 :: Value.int .i64 0 :: Value.int .i64 0 :: Value.int .i64 0 :: Value.int .i64 0 :: Value.int .i64 0 :: Value.int .i64 0 :: Value.int .i64 0 :: Value.int .i64 0 :: Value.int .i64 0 :: Value.int .i64 0 :: Value.int .i64 0 :: Value.int .i64 0 :: Value.int .i64 0 :: Value.int .i64 0 :: Value.int .i64 0 :: Value.int .i64 0 :: Value.int .i64 0 :: Value.int .i64 0 :: Value.int .i64 0 :: Value.int .i64 0 :: Value.int .i64 0 :: Value.int .i64 0 :: [])) 27)) (w.heap.size + 1) 27 (fun _ => 0) ∧ Below w.heap.size w ((w.alloc (.cells (List.toArray (Value.int .i64 0 :: Value.int .i64 0 :: Value.int .i64 0 :: Value.int .i64 0 :: Value.int .i64 0 :: Value.int .i64 0 :: Value.int .i64 0 :: Value.int .i64 0 :: Value.int .i64 0 :: Value.int .i64 0 :: Value.int .i64 0 :: Value.int .i64 0 :: Value.int .i64 0 :: Value.int .i64 0 :: Value.int .i64 0 :: Value.int .i64 0 :: Value.int .i64 0 :: Value.int .i64 0 :: Value.int .i64 0 :: Value.int .i64 0 :: Value.int .i64 0 :: Value.int .i64 0 :: Value.int .i64 0 :: Value.int .i64 0 :: Value.int .i64 0 :: Value.int .i64 0 :: Value.int .i64 0 :: Value.int .i64 0 :: Value.int .i64 0 :: Value.int .i64 0 :: Value.int .i64 0 :: Value.int .i64 0 :: Value.int .i64 0 :: Value.int .i64 0 :: Value.int .i64 0 :: Value.int .i64 0 :: Value.int .i64 0 :: Value.int .i64 0 :: Value.int .i64 0 :: Value.int .i64 0 :: Value.int .i64 0 :: Value.int .i64 0 :: Value.int .i64 0 :: Value.int .i64 0 :: Value.int .i64 0 :: Value.int .i64 0 :: Value.int .i64 0 :: Value.int .i64 0 :: Value.int .i64 0 :: Value.int .i64 0 :: Value.int .i64 0 :: Value.int .i64 0 :: Value.int .i64 0 :: Value.int .i64 0 :: Value.int .i64 0 :: Value.int .i64 0 :: Value.int .i64 0 :: Value.int .i64 0 :: Value.int .i64 0 :: Value.int .i64 0 :: Value.int .i64 0 :: Value.int .i64 0 :: Value.int .i64 0 :: Value.int .i64 0 :: [])) 27)).alloc (.cells (List.toArray (Value.int .i64 0 :: Value.int .i64 0 :: Value.int .i64 0 :: Value.int .i64 0 :: Value.int .i64 0 :: Value.int .i64 0 :: Value.int .i64 0 :: Value.int .i64 0 :: Value.int .i64 0 :: Value.int .i64 0 :: Value.int .i64 0 :: Value.int .i64 0 :: Value.int .i64 0 :: Value.int .i64 0 :: Value.int .i64 0 :: Value.int .i64 0 :: Value.int .i64 0 :: Value.int .i64 0 :: Value.int .i64 0 :: Value.int .i64 0 :: Value.int .i64 0 :: Value.int .i64 0 :: Value.int .i64 0 :: Value.int .i64 0 :: Value.int .i64 0 :: Value.int .i64 0 :: Value.int .i64 0 :: Value.int .i64 0 :: Value.int .i64 0 :: Value.int .i64 0 :: Value.int .i64 0 :: Value.int .i64 0 :: Value.int .i64 0 :: Value.int .i64 0 :: Value.int .i64 0 :: Value.int .i64 0 :: Value.int .i64 0 :: Value.int .i64 0 :: Value.int .i64 0 :: Value.int .i64 0 :: Value.int .i64 0 :: Value.int .i64 0 :: Value.int .i64 0 :: Value.int .i64 0 :: Value.int .i64 0 :: Value.int .i64 0 :: Value.int .i64 0 :: Value.int .i64 0 :: Value.int .i64 0 :: Value.int .i64 0 :: Value.int .i64 0 :: Value.int .i64 0 :: Value.int .i64 0 :: Value.int .i64 0 :: Value.int .i64 0 :: Value.int .i64 0 :: Value.int .i64 0 :: Value.int .i64 0 :: Value.int .i64 0 :: Value.int .i64 0 :: Value.int .i64 0 :: Value.int .i64 0 :: Value.int .i64 0 :: Value.int .i64 0 :: [])) 27)) := by
  have h1 := (row_zero w 27).alloc (.cells (List.toArray (Value.int .i64 0 :: Value.int .i64 0 :: Value.int .i64 0 :: Value.int .i64 0 :: Value.int .i64 0 :: Value.int .i64 0 :: Value.int .i64 0 :: Value.int .i64 0 :: Value.int .i64 0 :: Value.int .i64 0 :: Value.int .i64 0 :: Value.int .i64 0 :: Value.int .i64 0 :: Value.int .i64 0 :: Value.int .i64 0 :: Value.int .i64 0 :: Value.int .i64 0 :: Value.int .i64 0 :: Value.int .i64 0 :: Value.int .i64 0 :: Value.int .i64 0 :: Value.int .i64 0 :: Value.int .i64 0 :: Value.int .i64 0 :: Value.int .i64 0 :: Value.int .i64 0 :: Value.int .i64 0 :: Value.int .i64 0 :: Value.int .i64 0 :: Value.int .i64 0 :: Value.int .i64 0 :: Value.int .i64 0 :: Value.int .i64 0 :: Value.int .i64 0 :: Value.int .i64 0 :: Value.int .i64 0 :: Value.int .i64 0 :: Value.int .i64 0 :: Value.int .i64 0 :: Value.int .i64 0 :: Value.int .i64 0 :: Value.int .i64 0 :: Value.int .i64 0 :: Value.int .i64 0 :: Value.int .i64 0 :: Value.int .i64 0 :: Value.int .i64 0 :: Value.int .i64 0 :: Value.int .i64 0 :: Value.int .i64 0 :: Value.int .i64 0 :: Value.int .i64 0 :: Value.int .i64 0 :: Value.int .i64 0 :: Value.int .i64 0 :: Value.int .i64 0 :: Value.int .i64 0 :: Value.int .i64 0 :: Value.int .i64 0 :: Value.int .i64 0 :: Value.int .i64 0 :: Value.int .i64 0 :: Value.int .i64 0 :: Value.int .i64 0 :: [])) 27)
  have h2 := row_zero (w.alloc (.cells (List.toArray (Value.int .i64 0 :: Value.int .i64 0 :: Value.int .i64 0 :: Value.int .i64 0 :: Value.int .i64 0 :: Value.int .i64 0 :: Value.int .i64 0 :: Value.int .i64 0 :: Value.int .i64 0 :: Value.int .i64 0 :: Value.int .i64 0 :: Value.int .i64 0 :: Value.int .i64 0 :: Value.int .i64 0 :: Value.int .i64 0 :: Value.int .i64 0 :: Value.int .i64 0 :: Value.int .i64 0 :: Value.int .i64 0 :: Value.int .i64 0 :: Value.int .i64 0 :: Value.int .i64 0 :: Value.int .i64 0 :: Value.int .i64 0 :: Value.int .i64 0 :: Value.int .i64 0 :: Value.int .i64 0 :: Value.int .i64 0 :: Value.int .i64 0 :: Value.int .i64 0 :: Value.int .i64 0 :: Value.int .i64 0 :: Value.int .i64 0 :: Value.int .i64 0 :: Value.int .i64 0 :: Value.int .i64 0 :: Value.int .i64 0 :: Value.int .i64 0 :: Value.int .i64 0 :: Value.int .i64 0 :: Value.int .i64 0 :: Value.int .i64 0 :: Value.int .i64 0 :: Value.int .i64 0 :: Value.int .i64 0 :: Value.int .i64 0 :: Value.int .i64 0 :: Value.int .i64 0 :: Value.int .i64 0 :: Value.int .i64 0 :: Value.int .i64 0 :: Value.int .i64 0 :: Value.int .i64 0 :: Value.int .i64 0 :: Value.int .i64 0 :: Value.int .i64 0 :: Value.int .i64 0 :: Value.int .i64 0 :: Value.int .i64 0 :: Value.int .i64 0 :: Value.int .i64 0 :: Value.int .i64 0 :: Value.int .i64 0 :: Value.int .i64 0 :: [])) 27)) 27
  have e : ∀ (w : World) (o : Obj), (w.alloc o).heap.size = w.heap.size + 1 := fun w o => by simp
  rw [e] at h2
  exact ⟨h1, h2, below_alloc (below_alloc (Below.refl w.heap.size w) _) _⟩

set_option maxHeartbeats 2000000 in
set_option maxRecDepth 100000 in
theorem pass_fore (b : Nat) (g : Nat → Nat → Int) (w : World) (c : Hid (∀ W, Below w.heap.size w W → ∀ line k : Nat, line < 8 → k < 8 → Calls Tryd.prog 15 #[.pointer (some ⟨b, 0, none⟩), .int .i64 (line : Int), .int .i64 (k : Int)] W fun e w' => e = .returned (.int .i64 (g line k)) ∧ Below W.heap.size W w')) :
    Calls Tryd.prog 14 #[.func (.func 15) #[.pointer (some ⟨b, 0, none⟩)] #[]] w fun e w' => e = .returned (blkV (passF g)) ∧ Below w.heap.size w w' := by
  obtain ⟨s1, s2, s3⟩ := start2 w
  have S1 := hide s1
  have S2 := hide (s2.congr (g := fun i => .int .i64 (rowP g 0 0 i)) (fun i _ => by unfold rowP; rw [if_neg (by omega)]))
  have S3 := hide s3
  clear s1 s2 s3
  unfold blkV
  go_enter Tryd.func14, Tryd.ntmps14
  go_wp2_with fail
  generalize (w.alloc (.cells (List.toArray (Value.int .i64 0 :: Value.int .i64 0 :: Value.int .i64 0 :: Value.int .i64 0 :: Value.int .i64 0 :: Value.int .i64 0 :: Value.int .i64 0 :: Value.int .i64 0 :: Value.int .i64 0 :: Value.int .i64 0 :: Value.int .i64 0 :: Value.int .i64 0 :: Value.int .i64 0 :: Value.int .i64 0 :: Value.int .i64 0 :: Value.int .i64 0 :: Value.int .i64 0 :: Value.int .i64 0 :: Value.int .i64 0 :: Value.int .i64 0 :: Value.int .i64 0 :: Value.int .i64 0 :: Value.int .i64 0 :: Value.int .i64 0 :: Value.int .i64 0 :: Value.int .i64 0 :: Value.int .i64 0 :: Value.int .i64 0 :: Value.int .i64 0 :: Value.int .i64 0 :: Value.int .i64 0 :: Value.int .i64 0 :: Value.int .i64 0 :: Value.int .i64 0 :: Value.int .i64 0 :: Value.int .i64 0 :: Value.int .i64 0 :: Value.int .i64 0 :: Value.int .i64 0 :: Value.int .i64 0 :: Value.int .i64 0 :: Value.int .i64 0 :: Value.int .i64 0 :: Value.int .i64 0 :: Value.int .i64 0 :: Value.int .i64 0 :: Value.int .i64 0 :: Value.int .i64 0 :: Value.int .i64 0 :: Value.int .i64 0 :: Value.int .i64 0 :: Value.int .i64 0 :: Value.int .i64 0 :: Value.int .i64 0 :: Value.int .i64 0 :: Value.int .i64 0 :: Value.int .i64 0 :: Value.int .i64 0 :: Value.int .i64 0 :: Value.int .i64 0 :: Value.int .i64 0 :: Value.int .i64 0 :: Value.int .i64 0 :: Value.int .i64 0 :: [])) 27)).alloc (.cells (List.toArray (Value.int .i64 0 :: Value.int .i64 0 :: Value.int .i64 0 :: Value.int .i64 0 :: Value.int .i64 0 :: Value.int .i64 0 :: Value.int .i64 0 :: Value.int .i64 0 :: Value.int .i64 0 :: Value.int .i64 0 :: Value.int .i64 0 :: Value.int .i64 0 :: Value.int .i64 0 :: Value.int .i64 0 :: Value.int .i64 0 :: Value.int .i64 0 :: Value.int .i64 0 :: Value.int .i64 0 :: Value.int .i64 0 :: Value.int .i64 0 :: Value.int .i64 0 :: Value.int .i64 0 :: Value.int .i64 0 :: Value.int .i64 0 :: Value.int .i64 0 :: Value.int .i64 0 :: Value.int .i64 0 :: Value.int .i64 0 :: Value.int .i64 0 :: Value.int .i64 0 :: Value.int .i64 0 :: Value.int .i64 0 :: Value.int .i64 0 :: Value.int .i64 0 :: Value.int .i64 0 :: Value.int .i64 0 :: Value.int .i64 0 :: Value.int .i64 0 :: Value.int .i64 0 :: Value.int .i64 0 :: Value.int .i64 0 :: Value.int .i64 0 :: Value.int .i64 0 :: Value.int .i64 0 :: Value.int .i64 0 :: Value.int .i64 0 :: Value.int .i64 0 :: Value.int .i64 0 :: Value.int .i64 0 :: Value.int .i64 0 :: Value.int .i64 0 :: Value.int .i64 0 :: Value.int .i64 0 :: Value.int .i64 0 :: Value.int .i64 0 :: Value.int .i64 0 :: Value.int .i64 0 :: Value.int .i64 0 :: Value.int .i64 0 :: Value.int .i64 0 :: Value.int .i64 0 :: Value.int .i64 0 :: Value.int .i64 0 :: Value.int .i64 0 :: [])) 27) = w2 at S1 S2 S3 ⊢
  go_loopw [4, 5, 6, 9] (fun _ _ i _ wr => ∃ L : Nat, L ≤ 8 ∧ i = .int .i64 (L : Int) ∧ rowB wr (w.heap.size + 1) 27 (rowP g L 0) ∧ rowB wr w.heap.size 27 (fun _ => 0) ∧ Below w.heap.size w wr) (fun _ _ i _ _ => 8 - (intOf i).toNat)
  case atStart => exact ⟨0, by omega, rfl, S2.out, S1.out, S3.out⟩
  case round =>
    obtain ⟨L, hL, rfl, h2, h1, hbel⟩ := hrel
    have H1 := hide h1
    have H2 := hide h2
    have HB := hide hbel
    by_cases hlt : (L : Int) < 8
    · have hL8 : L < 8 := by omega
      clear h1 h2 hbel
      go_wp2_with fail
      go_loopw [5, 9] (fun _ i w3 => ∃ K : Nat, K ≤ 8 ∧ i = .int .i64 (K : Int) ∧ rowB w3 (w.heap.size + 1) 27 (rowP g L K) ∧ rowB w3 w.heap.size 27 (fun _ => 0) ∧ Below w.heap.size w w3) (fun _ i _ => 8 - (intOf i).toNat)
      case atStart => exact ⟨0, by omega, rfl, H2.out, H1.out, HB.out⟩
      case round =>
        obtain ⟨K, hK, rfl, h2, h1, hbel⟩ := hrel
        rename World => w3
        have H1 := hide h1
        have H2 := hide h2
        have HB := hide hbel
        by_cases hlt2 : (K : Int) < 8
        · have hK8 : K < 8 := by omega
          clear h1 h2 hbel
          go_wp2_with fail
          refine (c.out w3 HB.out L K hL8 hK8).mono ?_
          rintro e w4 ⟨rfl, hb4⟩
          have h2 := row_below H2.out hb4
          have H1' := hide (row_below H1.out hb4)
          have H2' := hide h2
          have HB' := hide (bstep HB.out hb4)
          have gr := h2.cell (i := 8 * K + L) (by omega)
          have gf := h2.frozen (8 * K + L)
          clear h2 hb4
          go_wp2_with fail
          go_roundw
          case rel => exact ⟨K + 1, by omega, by go_num, (H2'.out.set (8 * K + L) _).congr (fun x _ => rowP_set g L K x hL8), H1'.out.setOther (by simp) _, HB'.out.setCell (by simp) _⟩
          case measure => simp [intOf]; omega
        · have hK8 : K = 8 := by omega
          subst hK8
          clear h1 h2 hbel
          go_wp2_with fail
          go_roundw
          case rel => exact ⟨L + 1, by omega, by go_num, H2.out.congr (fun x hx => by rw [rowP_next g L hx]), H1.out, HB.out⟩
          case measure => simp [intOf]; omega
    · have hL8 : L = 8 := by omega
      have hr := row_range (h2.congr (g := fun i => .int .i64 (passF g i)) (fun i hi => by rw [hL8, rowP_all g i]))
      have ht := row_there h1
      have HR := hide hr
      have HT := hide ht
      clear h1 h2 hbel hr ht hL8
      go_wp2_with (first
        | (refine wpList_load_mid (op := ⟨some 23, _, _, _, _, _⟩) rfl 27 (.tmp 3) rfl (w.heap.size + 1) 0 rfl _ _ HR.out Tryd.underlying27 rfl (info27 _) ?_)
        | (refine wpList_store_mid (op := ⟨none, _, _, _, _, _⟩) rfl 27 (.tmp 2) (.tmp 23) rfl w.heap.size 0 (vals (passF g)).toArray rfl rfl (by rw [vals_size]; exact HT.out) (by rw [vals_size]; exact size27) (all_oneCell_toArray (vals_one _)) ?_))
      exact bodyPost_ret (v := blkV (passF g)) (results_cell _ w.heap.size (passF g) _ rfl rfl (World.rangeAt_setCells_same _ _ _ _ (by rw [vals_length]; exact HT.out)) Tryd.underlying27 rfl (info27 _)) rfl ⟨rfl, below_setCells (by omega) _ _ _ HB.out⟩

set_option maxHeartbeats 2000000 in
set_option maxRecDepth 100000 in
theorem pass_back (b : Nat) (g : Nat → Nat → Int) (w : World) (c : Hid (∀ W, Below w.heap.size w W → ∀ line k : Nat, line < 8 → k < 8 → Calls Tryd.prog 20 #[.pointer (some ⟨b, 0, none⟩), .int .i64 (line : Int), .int .i64 (k : Int)] W fun e w' => e = .returned (.int .i64 (g line k)) ∧ Below W.heap.size W w')) :
    Calls Tryd.prog 14 #[.func (.func 20) #[.pointer (some ⟨b, 0, none⟩)] #[]] w fun e w' => e = .returned (blkV (passF g)) ∧ Below w.heap.size w w' := by
  obtain ⟨s1, s2, s3⟩ := start2 w
  have S1 := hide s1
  have S2 := hide (s2.congr (g := fun i => .int .i64 (rowP g 0 0 i)) (fun i _ => by unfold rowP; rw [if_neg (by omega)]))
  have S3 := hide s3
  clear s1 s2 s3
  unfold blkV
  go_enter Tryd.func14, Tryd.ntmps14
  go_wp2_with fail
  generalize (w.alloc (.cells (List.toArray (Value.int .i64 0 :: Value.int .i64 0 :: Value.int .i64 0 :: Value.int .i64 0 :: Value.int .i64 0 :: Value.int .i64 0 :: Value.int .i64 0 :: Value.int .i64 0 :: Value.int .i64 0 :: Value.int .i64 0 :: Value.int .i64 0 :: Value.int .i64 0 :: Value.int .i64 0 :: Value.int .i64 0 :: Value.int .i64 0 :: Value.int .i64 0 :: Value.int .i64 0 :: Value.int .i64 0 :: Value.int .i64 0 :: Value.int .i64 0 :: Value.int .i64 0 :: Value.int .i64 0 :: Value.int .i64 0 :: Value.int .i64 0 :: Value.int .i64 0 :: Value.int .i64 0 :: Value.int .i64 0 :: Value.int .i64 0 :: Value.int .i64 0 :: Value.int .i64 0 :: Value.int .i64 0 :: Value.int .i64 0 :: Value.int .i64 0 :: Value.int .i64 0 :: Value.int .i64 0 :: Value.int .i64 0 :: Value.int .i64 0 :: Value.int .i64 0 :: Value.int .i64 0 :: Value.int .i64 0 :: Value.int .i64 0 :: Value.int .i64 0 :: Value.int .i64 0 :: Value.int .i64 0 :: Value.int .i64 0 :: Value.int .i64 0 :: Value.int .i64 0 :: Value.int .i64 0 :: Value.int .i64 0 :: Value.int .i64 0 :: Value.int .i64 0 :: Value.int .i64 0 :: Value.int .i64 0 :: Value.int .i64 0 :: Value.int .i64 0 :: Value.int .i64 0 :: Value.int .i64 0 :: Value.int .i64 0 :: Value.int .i64 0 :: Value.int .i64 0 :: Value.int .i64 0 :: Value.int .i64 0 :: Value.int .i64 0 :: Value.int .i64 0 :: [])) 27)).alloc (.cells (List.toArray (Value.int .i64 0 :: Value.int .i64 0 :: Value.int .i64 0 :: Value.int .i64 0 :: Value.int .i64 0 :: Value.int .i64 0 :: Value.int .i64 0 :: Value.int .i64 0 :: Value.int .i64 0 :: Value.int .i64 0 :: Value.int .i64 0 :: Value.int .i64 0 :: Value.int .i64 0 :: Value.int .i64 0 :: Value.int .i64 0 :: Value.int .i64 0 :: Value.int .i64 0 :: Value.int .i64 0 :: Value.int .i64 0 :: Value.int .i64 0 :: Value.int .i64 0 :: Value.int .i64 0 :: Value.int .i64 0 :: Value.int .i64 0 :: Value.int .i64 0 :: Value.int .i64 0 :: Value.int .i64 0 :: Value.int .i64 0 :: Value.int .i64 0 :: Value.int .i64 0 :: Value.int .i64 0 :: Value.int .i64 0 :: Value.int .i64 0 :: Value.int .i64 0 :: Value.int .i64 0 :: Value.int .i64 0 :: Value.int .i64 0 :: Value.int .i64 0 :: Value.int .i64 0 :: Value.int .i64 0 :: Value.int .i64 0 :: Value.int .i64 0 :: Value.int .i64 0 :: Value.int .i64 0 :: Value.int .i64 0 :: Value.int .i64 0 :: Value.int .i64 0 :: Value.int .i64 0 :: Value.int .i64 0 :: Value.int .i64 0 :: Value.int .i64 0 :: Value.int .i64 0 :: Value.int .i64 0 :: Value.int .i64 0 :: Value.int .i64 0 :: Value.int .i64 0 :: Value.int .i64 0 :: Value.int .i64 0 :: Value.int .i64 0 :: Value.int .i64 0 :: Value.int .i64 0 :: Value.int .i64 0 :: Value.int .i64 0 :: Value.int .i64 0 :: [])) 27) = w2 at S1 S2 S3 ⊢
  go_loopw [4, 5, 6, 9] (fun _ _ i _ wr => ∃ L : Nat, L ≤ 8 ∧ i = .int .i64 (L : Int) ∧ rowB wr (w.heap.size + 1) 27 (rowP g L 0) ∧ rowB wr w.heap.size 27 (fun _ => 0) ∧ Below w.heap.size w wr) (fun _ _ i _ _ => 8 - (intOf i).toNat)
  case atStart => exact ⟨0, by omega, rfl, S2.out, S1.out, S3.out⟩
  case round =>
    obtain ⟨L, hL, rfl, h2, h1, hbel⟩ := hrel
    have H1 := hide h1
    have H2 := hide h2
    have HB := hide hbel
    by_cases hlt : (L : Int) < 8
    · have hL8 : L < 8 := by omega
      clear h1 h2 hbel
      go_wp2_with fail
      go_loopw [5, 9] (fun _ i w3 => ∃ K : Nat, K ≤ 8 ∧ i = .int .i64 (K : Int) ∧ rowB w3 (w.heap.size + 1) 27 (rowP g L K) ∧ rowB w3 w.heap.size 27 (fun _ => 0) ∧ Below w.heap.size w w3) (fun _ i _ => 8 - (intOf i).toNat)
      case atStart => exact ⟨0, by omega, rfl, H2.out, H1.out, HB.out⟩
      case round =>
        obtain ⟨K, hK, rfl, h2, h1, hbel⟩ := hrel
        rename World => w3
        have H1 := hide h1
        have H2 := hide h2
        have HB := hide hbel
        by_cases hlt2 : (K : Int) < 8
        · have hK8 : K < 8 := by omega
          clear h1 h2 hbel
          go_wp2_with fail
          refine (c.out w3 HB.out L K hL8 hK8).mono ?_
          rintro e w4 ⟨rfl, hb4⟩
          have h2 := row_below H2.out hb4
          have H1' := hide (row_below H1.out hb4)
          have H2' := hide h2
          have HB' := hide (bstep HB.out hb4)
          have gr := h2.cell (i := 8 * K + L) (by omega)
          have gf := h2.frozen (8 * K + L)
          clear h2 hb4
          go_wp2_with fail
          go_roundw
          case rel => exact ⟨K + 1, by omega, by go_num, (H2'.out.set (8 * K + L) _).congr (fun x _ => rowP_set g L K x hL8), H1'.out.setOther (by simp) _, HB'.out.setCell (by simp) _⟩
          case measure => simp [intOf]; omega
        · have hK8 : K = 8 := by omega
          subst hK8
          clear h1 h2 hbel
          go_wp2_with fail
          go_roundw
          case rel => exact ⟨L + 1, by omega, by go_num, H2.out.congr (fun x hx => by rw [rowP_next g L hx]), H1.out, HB.out⟩
          case measure => simp [intOf]; omega
    · have hL8 : L = 8 := by omega
      have hr := row_range (h2.congr (g := fun i => .int .i64 (passF g i)) (fun i hi => by rw [hL8, rowP_all g i]))
      have ht := row_there h1
      have HR := hide hr
      have HT := hide ht
      clear h1 h2 hbel hr ht hL8
      go_wp2_with (first
        | (refine wpList_load_mid (op := ⟨some 23, _, _, _, _, _⟩) rfl 27 (.tmp 3) rfl (w.heap.size + 1) 0 rfl _ _ HR.out Tryd.underlying27 rfl (info27 _) ?_)
        | (refine wpList_store_mid (op := ⟨none, _, _, _, _, _⟩) rfl 27 (.tmp 2) (.tmp 23) rfl w.heap.size 0 (vals (passF g)).toArray rfl rfl (by rw [vals_size]; exact HT.out) (by rw [vals_size]; exact size27) (all_oneCell_toArray (vals_one _)) ?_))
      exact bodyPost_ret (v := blkV (passF g)) (results_cell _ w.heap.size (passF g) _ rfl rfl (World.rangeAt_setCells_same _ _ _ _ (by rw [vals_length]; exact HT.out)) Tryd.underlying27 rfl (info27 _)) rfl ⟨rfl, below_setCells (by omega) _ _ _ HB.out⟩
end Go.Proofs.YtimkedfdeghmnaaDoor
