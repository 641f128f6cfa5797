/- A row of like vectors, and what is foretold behind it; the plain part of MedianFirst. -/
import Derived.Test.YtimkedfdeghmnaaMedG
namespace Go.Proofs.Ytimkedfdeghmnaa
open Go.RowKit

/-- The cells of so many like vectors. -/
def vcells (vx vy : Int) : Nat → List Value
  | 0 => []
  | k + 1 => vcells vx vy k ++ [.int .i64 vx, .int .i64 vy]

theorem vcells_len (vx vy : Int) (k : Nat) : (vcells vx vy k).length = k * 2 := by
  induction k with
  | zero => rfl
  | succ k ih => rw [vcells, List.length_append, ih]; simp; omega

theorem vcells_get (vx vy : Int) (k i : Nat) (h : i < k) : (vcells vx vy k)[i * 2]? = some (.int .i64 vx) ∧ (vcells vx vy k)[i * 2 + 1]? = some (.int .i64 vy) := by
  induction k with
  | zero => omega
  | succ k ih =>
    rw [vcells]
    by_cases hi : i < k
    · rw [List.getElem?_append_left (by rw [vcells_len]; omega), List.getElem?_append_left (by rw [vcells_len]; omega)]
      exact ih hi
    · obtain rfl : i = k := by omega
      rw [List.getElem?_append_right (by rw [vcells_len]; omega), List.getElem?_append_right (by rw [vcells_len]; omega), vcells_len]
      simp

theorem vat_replicate (p : Int × Int) (k i : Nat) (h : i < k) : vat (List.replicate k p) i = p := by
  unfold vat
  rw [List.getD_eq_getElem?_getD, List.getElem?_replicate, if_pos h]
  rfl

theorem pairs_of_own {W : World} {base : Nat} {v : Value} {k : Nat} {vx vy : Int} (h : W.ownsRow base 24 2 v k (vcells vx vy k)) :
    ∃ a cap, v = .slice a (List.replicate k (vx, vy)).length cap ∧ IsPairs W a (List.replicate k (vx, vy)) := by
  rcases h.2 with ⟨rfl, h0⟩ | ⟨g, cap, cur, rfl, _, hg, hn, hcap, hsz, htake⟩
  · subst h0
    exact ⟨none, 0, rfl, fun h => absurd rfl h⟩
  · refine ⟨some ⟨g, 0, none⟩, cap, by rw [List.length_replicate], IsPairs.block _ hg fun i hi => ?_⟩
    rw [List.length_replicate] at hi
    rw [vat_replicate _ _ _ hi]
    obtain ⟨h0, h1⟩ := vcells_get vx vy k i hi
    rw [← htake, List.getElem?_take_of_lt (by omega)] at h0 h1
    exact ⟨by simpa using h0, by simpa using h1⟩

/-- What is foretold behind like vectors. -/
theorem same_call {W0 : World} {base : Nat} {v : Value} {k : Nat} {vx vy : Int} (h : W0.ownsRow base 24 2 v k (vcells vx vy k)) (hk : k ≤ 500) (across first : Int) (W : World) (hb : Below W0.heap.size W0 W) :
    Calls Try.prog 10 #[v, .int .i64 across, .int .i64 first] W fun e w' => e = .returned (vecP (medianOf (List.replicate k (vx, vy)) across first)) ∧ Below W.heap.size W w' := by
  obtain ⟨a, cap, rfl, hp⟩ := pairs_of_own h
  exact of_call a _ cap across first W (hp.below hb) (by rw [List.length_replicate]; exact hk)

theorem middle_same (a : Int) : middle a a a = a := by unfold middle; (repeat' split) <;> omega

theorem medianOf_top (l : List (Int × Int)) (m : Nat) (hm : 1 ≤ m) : medianOf l (m : Int) ((l.length : Int) / (m : Int)) = if 0 < l.length % m then vat l (l.length - 1) else (0, 0) := by
  have e2 : ((l.length : Int) / (m : Int)) = ((l.length / m : Nat) : Int) := by omega
  unfold medianOf
  rw [if_neg (by omega), Int.toNat_natCast, e2]
  unfold medOf arnd
  rw [if_pos (by generalize l.length / m = q; omega)]
  simp only [middle_same]

theorem medianOf_same (p : Int × Int) (k m : Nat) (f : Int) (hm : 1 ≤ m) (h0 : 0 < k % m) (h1 : k % m < m - 1) : medianOf (List.replicate k p) (m : Int) f = p := by
  have hk : 0 < k := by
    rcases Nat.eq_zero_or_pos k with h | h
    · rw [h, Nat.zero_mod] at h0; omega
    · exact h
  have hmk : ¬ ((k / m : Nat) : Int) ≤ max f 0 → m ≤ k := by
    intro h
    rcases Nat.lt_or_ge k m with h' | h'
    · rw [Nat.div_eq_of_lt h'] at h; omega
    · exact h'
  unfold medianOf
  rw [if_neg (by omega), Int.toNat_natCast]
  unfold medOf arnd
  rw [List.length_replicate]
  by_cases hl : ((k / m : Nat) : Int) ≤ max f 0
  · rw [if_pos hl]
    simp only [if_pos h0, vat_replicate p k (k - 1) (by omega), middle_same]
  · have := hmk hl
    rw [if_neg hl]
    simp only [if_pos h0, if_pos h1, vat_replicate p k (k - 1) (by omega), vat_replicate p k (k - m) (by omega), vat_replicate p k (k - m + 1) (by omega), middle_same]
end Go.Proofs.Ytimkedfdeghmnaa
