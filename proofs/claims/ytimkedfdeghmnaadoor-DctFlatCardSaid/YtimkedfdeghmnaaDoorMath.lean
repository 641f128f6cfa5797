/- Plain whole numbers: what the package 'whole' reckons, and its reference; no program in sight. -/
import Derived.RowKit
namespace Go.Proofs.YtimkedfdeghmnaaDoor
open Go.RowKit

def clip (n lo hi : Int) : Int := if hi < lo then lo else if n < lo then lo else if hi < n then hi else n
def middle (a b c : Int) : Int := if a < b then (if c ≤ a then a else if b ≤ c then b else c) else (if c ≤ b then b else if a ≤ c then a else c)
/-- Brought to one from -32 to 31. -/
def wrapv (n : Int) : Int := (n + 32) % 64 - 32
def share (n part all : Int) : Int := if clip all 0 2147483647 = 0 then 0 else clip n 0 2147483647 * clip part 0 (clip all 0 2147483647) / clip all 0 2147483647
def round (n bits : Int) : Int := if clip bits 0 32 = 0 then clip n (-1099511627776) 1099511627776 else
  (clip n (-1099511627776) 1099511627776 + 2 ^ ((clip bits 0 32).toNat - 1)) / 2 ^ (clip bits 0 32).toNat

/-- A vector of a list, none behind its end. -/
def vat (l : List (Int × Int)) (i : Nat) : Int × Int := l.getD i (0, 0)
/-- The three vectors by which the next one is foretold. -/
def arnd (l : List (Int × Int)) (m : Nat) (first : Int) : (Int × Int) × (Int × Int) × (Int × Int) :=
  if ((l.length / m : Nat) : Int) ≤ max first 0 then
    (if 0 < l.length % m then vat l (l.length - 1) else (0, 0), if 0 < l.length % m then vat l (l.length - 1) else (0, 0), if 0 < l.length % m then vat l (l.length - 1) else (0, 0))
  else (if 0 < l.length % m then vat l (l.length - 1) else (0, 0), vat l (l.length - m), if l.length % m < m - 1 then vat l (l.length - m + 1) else (0, 0))
def medOf (l : List (Int × Int)) (m : Nat) (first : Int) : Int × Int :=
  (middle (arnd l m first).1.1 (arnd l m first).2.1.1 (arnd l m first).2.2.1, middle (arnd l m first).1.2 (arnd l m first).2.1.2 (arnd l m first).2.2.2)

theorem clip_bd {n lo hi : Int} (h : lo ≤ hi) : lo ≤ clip n lo hi ∧ clip n lo hi ≤ hi := by
  unfold clip; split <;> (try split) <;> (try split) <;> omega

theorem mul_share_bd {a b c : Int} (ha0 : 0 ≤ a) (ha : a ≤ 2147483647) (hb0 : 0 ≤ b) (hb : b ≤ c) (hc : c ≤ 2147483647) : 0 ≤ a * b ∧ a * b ≤ 4611686014132420609 :=
  ⟨Int.mul_nonneg ha0 hb0, Int.le_trans (Int.mul_le_mul ha (Int.le_trans hb hc) hb0 (by omega)) (by decide)⟩

theorem pow_bd (k : Nat) (h : k ≤ 32) : 1 ≤ (2 : Int) ^ k ∧ (2 : Int) ^ k ≤ 4294967296 := by
  have := (by decide : ∀ k : Fin 33, 1 ≤ (2 : Int) ^ k.val ∧ (2 : Int) ^ k.val ≤ 4294967296)
  exact this ⟨k, by omega⟩

theorem pow_succ2 (k : Nat) : (2 : Int) ^ (k + 1) = 2 * 2 ^ k := by rw [Int.pow_succ]; omega

theorem round_shape {n : Int} {b : Nat} (hn1 : -1099511627776 ≤ n) (hn2 : n ≤ 1099511627776) (hb : b ≤ 32) :
    wrap64 (n + wrap64 (2 ^ (b - 1))) / 2 ^ b = (n + 2 ^ (b - 1)) / 2 ^ b := by
  have h := pow_bd (b - 1) (by omega)
  have h1 : wrap64 (2 ^ (b - 1)) = 2 ^ (b - 1) := by unfold wrap64; omega
  have h2 : wrap64 (n + 2 ^ (b - 1)) = n + 2 ^ (b - 1) := by unfold wrap64; omega
  rw [h1, h2]

theorem half_pow {k : Nat} (h : 0 < k) : (2 : Int) ^ k / 2 = 2 ^ (k - 1) := by
  obtain ⟨j, rfl⟩ : ∃ j, k = j + 1 := ⟨k - 1, by omega⟩
  rw [pow_succ2, Nat.add_sub_cancel]; omega

/-- Go's quotient times the divisor is within the number. -/
theorem tdiv_mul_bd {S B : Int} (hB : 0 < B) (hB2 : B ≤ 4294967296) (h1 : -2199023255552 ≤ S) (h2 : S ≤ 2199023255552) :
    wrap64 (S.tdiv B * B) = S.tdiv B * B ∧ -2199023255552 - 4294967296 ≤ S.tdiv B * B ∧ S.tdiv B * B ≤ 2199023255552 + 4294967296 := by
  have e := Int.mul_tdiv_add_tmod S B
  rw [Int.mul_comm] at e
  have a := Int.tmod_lt_of_pos S hB
  have b := Int.tmod_lt_of_pos (-S) hB
  rw [Int.neg_tmod] at b
  unfold wrap64
  omega

theorem tdiv_bd {S B : Int} (hB : 0 < B) (h1 : -2199023255552 ≤ S) (h2 : S ≤ 2199023255552) : -2199023255553 ≤ S / B ∧ S / B ≤ 2199023255552 := by
  constructor
  · have := (Int.le_ediv_iff_mul_le (a := -2199023255553) (b := S) hB).2 (by omega)
    exact this
  · have := (Int.ediv_lt_iff_lt_mul (a := S) (b := 2199023255553) hB).2 (by omega)
    omega

/-- Rounded down below nought: Go's quotient, one less where it does not come out even. -/
theorem floor_less {S B : Int} (hB : 0 < B) (hB2 : B ≤ 4294967296) (h1 : -2199023255552 ≤ S) (h2 : S < 0) (h : (wrap64 (S.tdiv B * B) != S) = true) :
    wrap64 (S.tdiv B - 1) = S / B := by
  rw [(tdiv_mul_bd hB hB2 h1 (by omega)).1] at h
  have hn : ¬ B ∣ S := by
    intro hd
    rw [Int.tdiv_mul_cancel hd] at h
    simp at h
  have hbd := tdiv_bd hB h1 (by omega)
  rw [Int.tdiv_eq_ediv, if_neg (by rintro (h0 | h0); omega; exact hn h0), Int.sign_eq_one_of_pos hB]
  unfold wrap64
  omega

theorem floor_even {S B : Int} (hB : 0 < B) (hB2 : B ≤ 4294967296) (h1 : -2199023255552 ≤ S) (h2 : S < 0) (h : (wrap64 (S.tdiv B * B) != S) = false) :
    S.tdiv B = S / B := by
  rw [(tdiv_mul_bd hB hB2 h1 (by omega)).1] at h
  have he : S.tdiv B * B = S := by simpa using h
  have hd : B ∣ S := ⟨S.tdiv B, by rw [Int.mul_comm]; exact he.symm⟩
  rw [Int.tdiv_eq_ediv, if_pos (Or.inr hd)]
  omega

theorem tmod64 (n : Int) : -64 < n.tmod 64 ∧ n.tmod 64 < 64 ∧ n = 64 * n.tdiv 64 + n.tmod 64 := by
  refine ⟨?_, ?_, (Int.mul_tdiv_add_tmod n 64).symm⟩
  · have h := Int.tmod_lt_of_pos (-n) (b := 64) (by omega)
    rw [Int.neg_tmod] at h
    omega
  · exact Int.tmod_lt_of_pos n (by omega)

end Go.Proofs.YtimkedfdeghmnaaDoor
