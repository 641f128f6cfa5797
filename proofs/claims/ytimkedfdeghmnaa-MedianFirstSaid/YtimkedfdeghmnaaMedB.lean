/- The walk of median.Of. -/
import Derived.Test.YtimkedfdeghmnaaMedA
import Derived.StillTailTactics
import Derived.LoopN
namespace Go.Proofs.Ytimkedfdeghmnaa
open Go.RowKit
attribute [local go_sem] setCell_drewN alloc_drewN

abbrev vecP (p : Int × Int) : Value := vecV p.1 p.2

theorem below3_cast {w : World} {P : World → Prop} (h : P w) : P w := h

theorem around_call (a : Option Addr) (l : List (Int × Int)) (cap m : Nat) (first : Int) (w : World) (hp : IsPairs w a l) (hn : l.length ≤ 500) (hm : 1 ≤ m) :
    Calls Try.prog 23 #[.slice a l.length cap, .int .i64 (m : Int), .int .i64 first] w fun e w' =>
      e = .returned (.tuple #[vecP (arnd l m first).1, vecP (arnd l m first).2.1, vecP (arnd l m first).2.2]) ∧ Below w.heap.size w w' := by
  have e1 : ((l.length : Int) % (m : Int)) = ((l.length % m : Nat) : Int) := by omega
  have e2 : ((l.length : Int) / (m : Int)) = ((l.length / m : Nat) : Int) := by omega
  have hz : vecV (0, 0).1 (0, 0).2 = vecV 0 0 := rfl
  by_cases hl : ((l.length / m : Nat) : Int) ≤ max first 0
  · unfold arnd
    rw [if_pos hl]
    by_cases hc : 0 < l.length % m
    · have hpos : 0 < l.length := by
        rcases Nat.eq_zero_or_pos l.length with h | h
        · rw [h, Nat.zero_mod] at hc; omega
        · exact h
      obtain ⟨b, off, rfl, hb, hcell⟩ := hp (by intro h; rw [h] at hpos; simp at hpos)
      obtain ⟨g0, g1⟩ := hcell (l.length - 1) (by omega)
      simp only [if_pos hc]
      by_cases hf : 0 ≤ first
      · exact around_top_col_p b off l.length cap m first _ _ w hb hn hm (by omega) (by omega) (by omega) hf g0 g1
      · exact around_top_col_n b off l.length cap m first _ _ w hb hn hm (by omega) (by omega) (by omega) (by omega) g0 g1
    · simp only [if_neg hc]
      by_cases hf : 0 ≤ first
      · exact around_top_edge_p a l.length cap m first w hn hm (by omega) (by omega) hf
      · exact around_top_edge_n a l.length cap m first w hn hm (by omega) (by omega) (by omega)
  · unfold arnd
    rw [if_neg hl]
    have hmn : m ≤ l.length := by
      rcases Nat.lt_or_ge l.length m with h | h
      · rw [Nat.div_eq_of_lt h] at hl; omega
      · exact h
    obtain ⟨b, off, rfl, hb, hcell⟩ := hp (by intro h; rw [h] at hmn; simp at hmn; omega)
    obtain ⟨g2, g3⟩ := hcell (l.length - m) (by omega)
    by_cases hc : 0 < l.length % m
    · obtain ⟨g0, g1⟩ := hcell (l.length - 1) (by omega)
      simp only [if_pos hc]
      by_cases hd : l.length % m < m - 1
      · obtain ⟨g4, g5⟩ := hcell (l.length - m + 1) (by omega)
        simp only [if_pos hd]
        by_cases hf : 0 ≤ first
        · exact around_low_col_mid_p b off l.length cap m first _ _ _ _ _ _ w hb hn hm (by omega) (by omega) (by omega) hf (by omega) (by omega) g0 g1 g2 g3 g4 g5
        · exact around_low_col_mid_n b off l.length cap m first _ _ _ _ _ _ w hb hn hm (by omega) (by omega) (by omega) (by omega) (by omega) (by omega) g0 g1 g2 g3 g4 g5
      · simp only [if_neg hd]
        by_cases hf : 0 ≤ first
        · exact around_low_col_end_p b off l.length cap m first _ _ _ _ w hb hn hm (by omega) (by omega) (by omega) hf (by omega) (by omega) g0 g1 g2 g3
        · exact around_low_col_end_n b off l.length cap m first _ _ _ _ w hb hn hm (by omega) (by omega) (by omega) (by omega) (by omega) (by omega) g0 g1 g2 g3
    · simp only [if_neg hc]
      by_cases hd : l.length % m < m - 1
      · obtain ⟨g4, g5⟩ := hcell (l.length - m + 1) (by omega)
        simp only [if_pos hd]
        by_cases hf : 0 ≤ first
        · exact around_low_edge_mid_p b off l.length cap m first _ _ _ _ w hb hn hm (by omega) (by omega) (by omega) hf (by omega) (by omega) g2 g3 g4 g5
        · exact around_low_edge_mid_n b off l.length cap m first _ _ _ _ w hb hn hm (by omega) (by omega) (by omega) (by omega) (by omega) (by omega) g2 g3 g4 g5
      · simp only [if_neg hd]
        by_cases hf : 0 ≤ first
        · exact around_low_edge_end_p b off l.length cap m first _ _ w hb hn hm (by omega) (by omega) (by omega) hf (by omega) (by omega) g2 g3
        · exact around_low_edge_end_n b off l.length cap m first _ _ w hb hn hm (by omega) (by omega) (by omega) (by omega) (by omega) (by omega) g2 g3
end Go.Proofs.Ytimkedfdeghmnaa
