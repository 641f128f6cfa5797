/- The reference's Of foretells what the program's does. -/
import Derived.Test.YtimkedfdeghmnaaMedE
namespace Go.Proofs.Ytimkedfdeghmnaa
open Go.RowKit

/-- 'at' in a row of vectors: the vector of the cell, none beside the line. -/
theorem at_call (a : Option Addr) (l : List (Int × Int)) (cap m : Nat) (column line : Int) (w : World) (hp : IsPairs w a l) (hn : l.length ≤ 500) (hm : 1 ≤ m)
    (h : 0 ≤ column → column < (m : Int) → 0 ≤ line ∧ line * m + column < l.length) :
    Calls Try.prog 24 #[.slice a l.length cap, .int .i64 (m : Int), .int .i64 column, .int .i64 line] w fun e w' =>
      e = .returned (vecP (if column < 0 then (0, 0) else if (m : Int) ≤ column then (0, 0) else vat l (line * m + column).toNat)) ∧ Below w.heap.size w w' := by
  by_cases h0 : column < 0
  · rw [if_pos h0]
    exact at_low a _ cap m column line w h0
  · rw [if_neg h0]
    by_cases h1 : (m : Int) ≤ column
    · rw [if_pos h1]
      exact at_high a _ cap m column line w (by omega) h1
    · rw [if_neg h1]
      obtain ⟨h2, h3⟩ := h (by omega) (by omega)
      have h4 : 0 ≤ line * m := Int.mul_nonneg h2 (by omega)
      have hpos : l ≠ [] := by intro e; rw [e] at h3; simp at h3; omega
      obtain ⟨b, off, rfl, hb, hc⟩ := hp hpos
      obtain ⟨c0, c1⟩ := hc (line * m + column).toNat (by omega)
      exact at_in b off _ cap m column line _ _ w hb (by omega) (by omega) h4 (by omega) h3 hn c0 c1

theorem refOf_call (a : Option Addr) (l : List (Int × Int)) (cap : Nat) (across first : Int) (w : World) (hp : IsPairs w a l) (hn : l.length ≤ 500) :
    Calls Try.prog 11 #[.slice a l.length cap, .int .i64 across, .int .i64 first] w fun e w' =>
      e = .returned (vecP (medianOf l across first)) ∧ Below w.heap.size w w' := by
  unfold medianOf
  by_cases h : across < 1
  · rw [if_pos h]
    exact refOf_small a l.length cap across first w h
  · rw [if_neg h]
    have e : across = ((across.toNat : Nat) : Int) := by omega
    generalize across.toNat = m at e
    subst e
    have hm : 1 ≤ m := by omega
    have e1 : ((l.length : Int) % (m : Int)) = ((l.length % m : Nat) : Int) := by omega
    have e2 : ((l.length : Int) / (m : Int)) = ((l.length / m : Nat) : Int) := by omega
    have e3 := Nat.div_add_mod l.length m
    have e4 := Nat.mod_lt l.length (show 0 < m by omega)
    have key : Calls Try.prog 11 #[.slice a l.length cap, .int .i64 (m : Int), .int .i64 first] w fun e w' =>
        e = .returned (vecP (medOf l m first)) ∧ Below w.heap.size w w' := by
      unfold medOf arnd
      by_cases hl : ((l.length / m : Nat) : Int) ≤ max first 0
      · rw [if_pos hl]
        have hg : (l.length : Int) / (m : Int) ≤ 0 ∨ (l.length : Int) / (m : Int) ≤ first := by rw [e2]; omega
        refine refOf_top a l.length cap m first _ _ w hm hn hg ?_
        rw [e1, e2]
        clear hl hg e1 e2
        generalize l.length / m = q at *
        generalize l.length % m = r at *
        intro W hb
        have e5 : (q : Int) * (m : Int) = ((m * q : Nat) : Int) := by rw [Int.natCast_mul, Int.mul_comm]
        generalize m * q = M at *
        have hc := at_call a l cap m ((r : Int) - 1) (q : Int) W (hp.below hb) hn hm (by rw [e5]; omega)
        rw [e5] at hc
        by_cases hq : 0 < r
        · rw [if_neg (by omega), if_neg (by omega), show ((M : Int) + ((r : Int) - 1)).toNat = l.length - 1 by omega] at hc
          rw [if_pos hq]; exact hc
        · rw [if_pos (by omega)] at hc
          rw [if_neg hq]; exact hc
      · rw [if_neg hl]
        have hq0 : 1 ≤ l.length / m := by
          generalize l.length / m = q at hl
          omega
        have hg : 0 < (l.length : Int) / (m : Int) := by rw [e2]; generalize l.length / m = q at *; omega
        have hf : first < (l.length : Int) / (m : Int) := by rw [e2]; generalize l.length / m = q at *; omega
        refine refOf_low a l.length cap m first _ _ _ _ _ _ w hm hn hg hf ?_ ?_ ?_
        all_goals
          rw [e1, e2]
          clear hl hg hf e1 e2
          generalize l.length / m = q at *
          generalize l.length % m = r at *
          intro W hb
          have e5 : (q : Int) * (m : Int) = ((m * q : Nat) : Int) := by rw [Int.natCast_mul, Int.mul_comm]
          have e6 : ((q : Int) - 1) * (m : Int) = ((m * q : Nat) : Int) - m := by rw [Int.sub_mul, e5]; omega
          have hmn : m ≤ m * q := Nat.le_mul_of_pos_right m hq0
          generalize m * q = M at *
        · have hc := at_call a l cap m ((r : Int) - 1) (q : Int) W (hp.below hb) hn hm (by rw [e5]; omega)
          rw [e5] at hc
          by_cases hq : 0 < r
          · rw [if_neg (by omega), if_neg (by omega), show ((M : Int) + ((r : Int) - 1)).toNat = l.length - 1 by omega] at hc
            rw [if_pos hq]; exact hc
          · rw [if_pos (by omega)] at hc
            rw [if_neg hq]; exact hc
        · have hc := at_call a l cap m (r : Int) ((q : Int) - 1) W (hp.below hb) hn hm (by rw [e6]; omega)
          rw [e6] at hc
          rw [if_neg (by omega), if_neg (by omega), show ((M : Int) - (m : Int) + (r : Int)).toNat = l.length - m by omega] at hc
          exact hc
        · have hc := at_call a l cap m ((r : Int) + 1) ((q : Int) - 1) W (hp.below hb) hn hm (by rw [e6]; omega)
          rw [e6] at hc
          by_cases hq : r < m - 1
          · rw [if_neg (by omega), if_neg (by omega), show ((M : Int) - (m : Int) + ((r : Int) + 1)).toNat = l.length - m + 1 by omega] at hc
            rw [if_pos hq]; exact hc
          · rw [if_neg (by omega), if_pos (by omega)] at hc
            rw [if_neg hq]; exact hc
    exact key
end Go.Proofs.Ytimkedfdeghmnaa
