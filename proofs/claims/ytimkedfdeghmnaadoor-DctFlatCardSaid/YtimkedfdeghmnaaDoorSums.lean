/- The transform in plain whole numbers: what the program reckons, line by line, and what the document says, number by number. -/
import Derived.Test.YtimkedfdeghmnaaDoorMath
namespace Go.Proofs.YtimkedfdeghmnaaDoor
set_option linter.unusedVariables false

/-- The weights, line by line. -/
def wtab : List Int := [64, 64, 64, 64, 64, 64, 64, 64, 89, 75, 50, 18, -18, -50, -75, -89, 83, 36, -36, -83, -83, -36, 36, 83, 75, -18, -89, -50, 50, 89, 18, -75, 64, -64, -64, 64, 64, -64, -64, 64, 50, -89, 18, 75, -75, -18, 89, -50, 36, -83, 83, -36, -36, 83, -83, 36, 18, -50, 75, -89, 89, -75, 50, -18]
def wt (u x : Nat) : Int := wtab.getD (8 * u + x) 0
theorem wt_bd (u x : Nat) : -89 ≤ wt u x ∧ wt u x ≤ 89 := by
  have h : ∀ v ∈ wtab, -89 ≤ v ∧ v ≤ 89 := by decide
  unfold wt
  rw [List.getD_eq_getElem?_getD]
  rcases Nat.lt_or_ge (8 * u + x) wtab.length with h1 | h1
  · rw [List.getElem?_eq_getElem h1]; exact h _ (List.getElem_mem h1)
  · rw [List.getElem?_eq_none h1]; decide

/-- The first n of a row's numbers, summed up. -/
def tsum (f : Nat → Int) : Nat → Int
  | 0 => 0
  | n + 1 => tsum f n + f n
theorem tsum_congr {f g : Nat → Int} {n : Nat} (h : ∀ i, i < n → f i = g i) : tsum f n = tsum g n := by
  induction n with
  | zero => rfl
  | succ n ih => rw [tsum, tsum, ih (fun i hi => h i (by omega)), h n (by omega)]
theorem tsum_bd {f : Nat → Int} {M : Int} (n : Nat) (h : ∀ i, i < n → -M ≤ f i ∧ f i ≤ M) : -((n : Int) * M) ≤ tsum f n ∧ tsum f n ≤ (n : Int) * M := by
  induction n with
  | zero => simp [tsum]
  | succ n ih =>
    have h1 := ih (fun i hi => h i (by omega))
    have h2 := h n (by omega)
    rw [tsum]
    have e : ((n + 1 : Nat) : Int) * M = (n : Int) * M + M := by rw [Int.natCast_add, Int.add_mul]; simp
    rw [e]
    generalize (n : Int) * M = z at *
    omega
theorem tsum_mul (c : Int) (f : Nat → Int) (n : Nat) : c * tsum f n = tsum (fun i => c * f i) n := by
  induction n with
  | zero => simp [tsum]
  | succ n ih => rw [tsum, tsum, Int.mul_add, ih]
theorem tsum_zero {f : Nat → Int} {n : Nat} (h : ∀ i, i < n → f i = 0) : tsum f n = 0 := by
  induction n with
  | zero => rfl
  | succ n ih => rw [tsum, ih (fun i hi => h i (by omega)), h n (by omega)]; rfl
theorem mul_bd {a b A B : Int} (h1 : -A ≤ a) (h2 : a ≤ A) (h3 : -B ≤ b) (h4 : b ≤ B) (hA : 0 ≤ A) : -(A * B) ≤ a * b ∧ a * b ≤ A * B := by
  have hB : 0 ≤ B := by omega
  have h : (a * b).natAbs ≤ (A * B).natAbs := by
    rw [Int.natAbs_mul, Int.natAbs_mul]
    exact Nat.mul_le_mul (by omega) (by omega)
  have h0 : 0 ≤ A * B := Int.mul_nonneg hA hB
  omega

/-- What a row of eight and a line of a block come to. -/
def dot (u : Nat → Int) (a : Nat → Int) (o : Nat) : Int := tsum (fun i => u i * a (8 * o + i)) 8
/-- Both ways through a block. -/
def dsum (u v a : Nat → Int) : Int := tsum (fun i => v i * dot u a i) 8

theorem dsum_flat (u v a : Nat → Int) : tsum (fun q => u (q % 8) * v (q / 8) * a q) 64 = dsum u v a := by
  unfold dsum dot
  simp only [tsum_mul]
  simp only [tsum]
  simp only [← Int.mul_assoc, Int.mul_comm (v _) (u _)]
  simp
  omega

theorem dsum_turn (u v a : Nat → Int) : dsum u v (fun i => a (8 * (i % 8) + i / 8)) = dsum v u a := by
  unfold dsum dot
  simp only [tsum_mul]
  simp only [tsum]
  simp only [← Int.mul_assoc, Int.mul_comm (v _) (u _)]
  simp
  omega

theorem dsum_congr {u v a b : Nat → Int} (h : ∀ i, i < 64 → a i = b i) : dsum u v a = dsum u v b := by
  unfold dsum dot
  exact tsum_congr fun i hi => by rw [tsum_congr fun j hj => by rw [h (8 * i + j) (by omega)]]

/-- What a pass lays down: a line's number k stands in column k. -/
def passF (g : Nat → Nat → Int) (p : Nat) : Int := g (p % 8) (p / 8)
def fore1 (a : Nat → Int) (line k : Nat) : Int := dot (fun i => wt k i) a line
def back1 (a : Nat → Int) (line k : Nat) : Int := dot (fun i => wt i k) a line
def held (l : Nat → Int) (i : Nat) : Int := clip (l i) (-2048) 2047
def fwdS (l : Nat → Int) (p : Nat) : Int := passF (fore1 (passF (fore1 (held l)))) p
def invS (l : Nat → Int) (p : Nat) : Int := passF (back1 (passF (back1 (held l)))) p
def fwd (l : Nat → Int) (p : Nat) : Int := clip (round (fwdS l p) 15) (-2048) 2047
def inv (l : Nat → Int) (p : Nat) : Int := clip (round (invS l p) 15) (-256) 255

theorem fwdS_dsum (l : Nat → Int) (p : Nat) : fwdS l p = dsum (fun j => wt (p % 8) j) (fun i => wt (p / 8) i) (held l) := by
  unfold fwdS passF fore1 dsum
  unfold dot
  refine tsum_congr fun i hi => ?_
  have e1 : (8 * (p % 8) + i) % 8 = i := by omega
  have e2 : (8 * (p % 8) + i) / 8 = p % 8 := by omega
  simp only [e1, e2]
theorem invS_dsum (l : Nat → Int) (p : Nat) : invS l p = dsum (fun j => wt j (p % 8)) (fun i => wt i (p / 8)) (held l) := by
  unfold invS passF back1 dsum
  unfold dot
  refine tsum_congr fun i hi => ?_
  have e1 : (8 * (p % 8) + i) % 8 = i := by omega
  have e2 : (8 * (p % 8) + i) / 8 = p % 8 := by omega
  simp only [e1, e2]

/-- What the document sums up for one number. -/
def refTermF (l : Nat → Int) (p i : Nat) : Int := wt (p % 8) (i % 8) * wt (p / 8) (i / 8) * held l i
def refTermI (l : Nat → Int) (i p : Nat) : Int := wt (p % 8) (i % 8) * wt (p / 8) (i / 8) * held l p
theorem refF_sum (l : Nat → Int) (p : Nat) : tsum (refTermF l p) 64 = fwdS l p := by
  rw [fwdS_dsum, ← dsum_flat]; rfl
theorem refI_sum (l : Nat → Int) (i : Nat) : tsum (refTermI l i) 64 = invS l i := by
  rw [invS_dsum, ← dsum_flat]; rfl

theorem held_bd (l : Nat → Int) (i : Nat) : -2048 ≤ held l i ∧ held l i ≤ 2047 := clip_bd (by omega)
theorem held_zero {l : Nat → Int} {i : Nat} (h : l i = 0) : held l i = 0 := by unfold held; rw [h]; rfl
theorem dot_bd {u a : Nat → Int} {M : Int} (hM : 0 ≤ M) (hu : ∀ i, -89 ≤ u i ∧ u i ≤ 89) (o n : Nat) (ha : ∀ i, i < 8 → -M ≤ a (8 * o + i) ∧ a (8 * o + i) ≤ M) (hn : n ≤ 8) :
    -((n : Int) * (89 * M)) ≤ tsum (fun i => u i * a (8 * o + i)) n ∧ tsum (fun i => u i * a (8 * o + i)) n ≤ (n : Int) * (89 * M) :=
  tsum_bd n fun i hi => mul_bd (hu i).1 (hu i).2 (ha i (by omega)).1 (ha i (by omega)).2 (by omega)

/-- Rows for columns. -/
def turn (l : Nat → Int) (i : Nat) : Int := l (8 * (i % 8) + i / 8)
theorem fwd_turn (l : Nat → Int) (p : Nat) (hp : p < 64) : fwd (turn l) p = turn (fwd l) p := by
  have e1 : (8 * (p % 8) + p / 8) % 8 = p / 8 := by omega
  have e2 : (8 * (p % 8) + p / 8) / 8 = p % 8 := by omega
  have h : fwdS (turn l) p = fwdS l (8 * (p % 8) + p / 8) := by
    rw [fwdS_dsum, fwdS_dsum, e1, e2]
    exact dsum_turn _ _ (held l)
  unfold turn fwd
  rw [← h]
  rfl
theorem inv_turn (l : Nat → Int) (p : Nat) (hp : p < 64) : inv (turn l) p = turn (inv l) p := by
  have e1 : (8 * (p % 8) + p / 8) % 8 = p / 8 := by omega
  have e2 : (8 * (p % 8) + p / 8) / 8 = p % 8 := by omega
  have h : invS (turn l) p = invS l (8 * (p % 8) + p / 8) := by
    rw [invS_dsum, invS_dsum, e1, e2]
    exact dsum_turn _ _ (held l)
  unfold turn inv
  rw [← h]
  rfl
end Go.Proofs.YtimkedfdeghmnaaDoor
