/- What a flat block and a first number alone come to. No program in sight. -/
import Derived.Test.YtimkedfdeghmnaaDoorSums
namespace Go.Proofs.YtimkedfdeghmnaaDoor
set_option linter.unusedVariables false
set_option linter.unusedSimpArgs false

theorem wt_row : ∀ u, u < 8 → tsum (fun j => wt u j) 8 = if u = 0 then 512 else 0 := by decide
theorem wt_zero : ∀ x, x < 8 → wt 0 x = 64 := by decide
theorem clip_in {n lo hi : Int} (h1 : lo ≤ n) (h2 : n ≤ hi) : clip n lo hi = n := by
  unfold clip; rw [if_neg (by omega), if_neg (by omega), if_neg (by omega)]
theorem round15 (S : Int) (h1 : -1099511627776 ≤ S) (h2 : S ≤ 1099511627776) : round S 15 = (S + 16384) / 32768 := by
  unfold round
  rw [clip_in (n := 15) (by omega) (by omega), clip_in h1 h2, if_neg (by decide)]
  rfl
theorem dot_flat (u : Nat → Int) (c : Int) (o : Nat) : dot u (fun _ => c) o = c * tsum u 8 := by
  unfold dot
  rw [tsum_mul]
  exact tsum_congr fun i _ => Int.mul_comm _ _
theorem dsum_const (u v : Nat → Int) (c : Int) : dsum u v (fun _ => c) = c * tsum u 8 * tsum v 8 := by
  unfold dsum
  rw [tsum_mul]
  exact tsum_congr fun i _ => by rw [dot_flat, Int.mul_comm]
def cl (n : Int) : Int := clip n (-2048) 2047
theorem cl_bd (n : Int) : -2048 ≤ cl n ∧ cl n ≤ 2047 := clip_bd (by omega)
theorem fwdS_flat (n : Int) (p : Nat) (hp : p < 64) : fwdS (fun _ => n) p = if p = 0 then 262144 * cl n else 0 := by
  rw [fwdS_dsum]
  have h : held (fun _ => n) = fun _ => cl n := rfl
  rw [h, dsum_const, wt_row _ (by omega), wt_row _ (by omega)]
  by_cases h0 : p = 0
  · subst h0
    simp
    omega
  · rw [if_neg h0]
    by_cases h1 : p % 8 = 0
    · rw [if_neg (show ¬ p / 8 = 0 by omega), Int.mul_zero]
    · rw [if_neg h1, Int.mul_zero, Int.zero_mul]
/-- The first number of a flat block. -/
def a0 (n : Int) : Int := clip (8 * cl n) (-2048) 2047
def fA (n : Int) (i : Nat) : Int := if i = 0 then a0 n else 0
theorem fwd_flat (n : Int) (p : Nat) (hp : p < 64) : fwd (fun _ => n) p = fA n p := by
  have hc := cl_bd n
  unfold fwd fA a0
  rw [fwdS_flat n p hp]
  by_cases h0 : p = 0
  · rw [if_pos h0, if_pos h0, round15 _ (by omega) (by omega), show (262144 * cl n + 16384) / 32768 = 8 * cl n by omega]
  · rw [if_neg h0, if_neg h0]; decide
theorem a0_of {n : Int} (h1 : -256 ≤ n) (h2 : n ≤ 255) : a0 n = 8 * n := by
  unfold a0 cl
  rw [clip_in (n := n) (by omega) (by omega), clip_in (by omega) (by omega)]
theorem a0_bd (n : Int) : -2048 ≤ a0 n ∧ a0 n ≤ 2047 := clip_bd (by omega)

/-- A first number alone. -/
def l0 (n : Int) (i : Nat) : Int := if i = 0 then n else 0
theorem held_l0 (n : Int) (i : Nat) : held (l0 n) i = if i = 0 then cl n else 0 := by
  unfold held l0
  by_cases h : i = 0
  · rw [if_pos h, if_pos h]; rfl
  · rw [if_neg h, if_neg h]; rfl
theorem invS_l0 (n : Int) (p : Nat) (hp : p < 64) : invS (l0 n) p = 4096 * cl n := by
  rw [invS_dsum]
  have h : held (l0 n) = fun i => if i = 0 then cl n else 0 := funext (held_l0 n)
  rw [h]
  unfold dsum dot
  simp [tsum, wt_zero (p % 8) (by omega), wt_zero (p / 8) (by omega)]
  omega
def b0 (n : Int) : Int := clip ((cl n + 4) / 8) (-256) 255
theorem inv_l0 (n : Int) (p : Nat) (hp : p < 64) : inv (l0 n) p = b0 n := by
  have hc := cl_bd n
  unfold inv b0
  rw [invS_l0 n p hp, round15 _ (by omega) (by omega), show (4096 * cl n + 16384) / 32768 = (cl n + 4) / 8 by omega]
theorem b0_bd (n : Int) : -256 ≤ b0 n ∧ b0 n ≤ 255 := clip_bd (by omega)
theorem b0_of {n : Int} (h1 : -2048 ≤ n) (h2 : n ≤ 2043) : 8 * b0 n ≤ n + 4 ∧ n - 4 < 8 * b0 n := by
  unfold b0 cl
  rw [clip_in (n := n) (by omega) (by omega), clip_in (by omega) (by omega)]
  omega
end Go.Proofs.YtimkedfdeghmnaaDoor
