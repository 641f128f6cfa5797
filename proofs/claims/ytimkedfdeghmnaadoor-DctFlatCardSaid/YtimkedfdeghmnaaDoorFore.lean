/- The walks of a line's sum, forth and back. -/
import Derived.Test.YtimkedfdeghmnaaDoorSums
import Derived.Test.YtimkedfdeghmnaaDoorWhole
import Derived.Test.YtimkedfdeghmnaaDoorOpen
import Derived.LoopTactic
namespace Go.Proofs.YtimkedfdeghmnaaDoor
open Go.RowKit
set_option linter.unusedVariables false
set_option linter.unusedSimpArgs false
attribute [local go_sem] setCell_drewN alloc_drewN

/-- The weights lie in the program's variable. -/
def HasW (w : World) : Prop := 0 < w.heap.size ∧ ∀ u x, u < 8 → x < 8 → w.cell? ⟨0, u * 8 + x, none⟩ = some (.int .i64 (wt u x))
/-- A block of numbers lies here. -/
def HasB (w : World) (b : Nat) (a : Nat → Int) : Prop := b < w.heap.size ∧ ∀ i, i < 64 → w.cell? ⟨b, i, none⟩ = some (.int .i64 (a i))
theorem HasW.below {w w' : World} (h : HasW w) (hb : Below w.heap.size w w') : HasW w' :=
  ⟨Nat.lt_of_lt_of_le h.1 hb.size, fun u x hu hx => by rw [hb.cell (p := ⟨0, _, none⟩) h.1]; exact h.2 u x hu hx⟩
theorem HasB.below {w w' : World} {b : Nat} {a : Nat → Int} (h : HasB w b a) (hb : Below w.heap.size w w') : HasB w' b a :=
  ⟨Nat.lt_of_lt_of_le h.1 hb.size, fun i hi => by rw [hb.cell (p := ⟨b, _, none⟩) h.1]; exact h.2 i hi⟩

set_option maxHeartbeats 1000000 in
theorem fore_call (b : Nat) (a : Nat → Int) (M : Int) (line k : Nat) (w : World) (hw : Hid (HasW w)) (hb : Hid (HasB w b a)) (hM0 : 0 ≤ M) (hM : M ≤ 1458176) (ha : Hid (∀ i, i < 64 → -M ≤ a i ∧ a i ≤ M)) (hl : line < 8) (hk : k < 8) :
    Calls Tryd.prog 15 #[.pointer (some ⟨b, 0, none⟩), .int .i64 (line : Int), .int .i64 (k : Int)] w fun e w' => e = .returned (.int .i64 (fore1 a line k)) ∧ Below w.heap.size w w' := by
  have hd := hide (fun n (hn : n ≤ 8) => dot_bd (u := fun i => wt k i) (a := a) hM0 (fun i => wt_bd _ _) line n (fun i hi => ha.out (8 * line + i) (by omega)) hn)
  go_enter Tryd.func15, Tryd.ntmps15
  go_wp2_with fail
  go_loopw [7, 8, 9] (fun s _ i wr => ∃ n q : Nat, n ≤ 8 ∧ i = .int .i64 (n : Int) ∧ s = .int .i64 (tsum (fun i => wt k i * a (8 * line + i)) n) ∧ wr = w.drewN q) (fun _ _ i _ => 8 - (intOf i).toNat)
  case atStart => exact ⟨0, 0, by omega, rfl, rfl, rfl⟩
  case round =>
    obtain ⟨n, q, hn, rfl, rfl, rfl⟩ := hrel
    by_cases hlt : (n : Int) < 8
    · have g1 := hw.out.2 k n hk (by omega)
      have g2 := hb.out.2 (8 * line + n) (by omega)
      have hx := ha.out (8 * line + n) (by omega)
      have hp := mul_bd (wt_bd k n).1 (wt_bd k n).2 hx.1 hx.2 (by omega)
      have hs := hd.out n (by omega)
      have hsx : tsum (fun i => wt k i * a (8 * line + i)) (n + 1) = tsum (fun i => wt k i * a (8 * line + i)) n + wt k n * a (8 * line + n) := rfl
      have hnl : (line : Int) ≤ 7 := by omega
      have hnM : (n : Int) * (89 * M) ≤ 7 * (89 * M) := Int.mul_le_mul_of_nonneg_right (by omega) (by omega)
      have HSX := hide hsx
      clear hsx
      generalize tsum (fun i => wt k i * a (8 * line + i)) n = S at *
      generalize (n : Int) * (89 * M) = Z at *
      go_wp2_with fail
      generalize hv : a (8 * line + n) = v at *
      generalize wt k n = t at *
      go_quiet (fail)
      go_wp2
      go_roundw
      case rel => exact ⟨n + 1, _, by omega, by go_num, by rw [HSX.out], rfl⟩
      case measure => simp [intOf]; omega
    · have hn8 : n = 8 := by omega
      subst hn8
      go_wp2
      go_ret
      exact ⟨rfl, below_drewN (Below.refl _ _) _⟩

set_option maxHeartbeats 1000000 in
theorem back_call (b : Nat) (a : Nat → Int) (M : Int) (line k : Nat) (w : World) (hw : Hid (HasW w)) (hb : Hid (HasB w b a)) (hM0 : 0 ≤ M) (hM : M ≤ 1458176) (ha : Hid (∀ i, i < 64 → -M ≤ a i ∧ a i ≤ M)) (hl : line < 8) (hk : k < 8) :
    Calls Tryd.prog 20 #[.pointer (some ⟨b, 0, none⟩), .int .i64 (line : Int), .int .i64 (k : Int)] w fun e w' => e = .returned (.int .i64 (back1 a line k)) ∧ Below w.heap.size w w' := by
  have hd := hide (fun n (hn : n ≤ 8) => dot_bd (u := fun i => wt i k) (a := a) hM0 (fun i => wt_bd _ _) line n (fun i hi => ha.out (8 * line + i) (by omega)) hn)
  go_enter Tryd.func20, Tryd.ntmps20
  go_wp2_with fail
  go_loopw [7, 8, 9] (fun s _ i wr => ∃ n q : Nat, n ≤ 8 ∧ i = .int .i64 (n : Int) ∧ s = .int .i64 (tsum (fun i => wt i k * a (8 * line + i)) n) ∧ wr = w.drewN q) (fun _ _ i _ => 8 - (intOf i).toNat)
  case atStart => exact ⟨0, 0, by omega, rfl, rfl, rfl⟩
  case round =>
    obtain ⟨n, q, hn, rfl, rfl, rfl⟩ := hrel
    by_cases hlt : (n : Int) < 8
    · have g1 := hw.out.2 n k (by omega) hk
      have g2 := hb.out.2 (8 * line + n) (by omega)
      have hx := ha.out (8 * line + n) (by omega)
      have hp := mul_bd (wt_bd n k).1 (wt_bd n k).2 hx.1 hx.2 (by omega)
      have hs := hd.out n (by omega)
      have hsx : tsum (fun i => wt i k * a (8 * line + i)) (n + 1) = tsum (fun i => wt i k * a (8 * line + i)) n + wt n k * a (8 * line + n) := rfl
      have hnl : (line : Int) ≤ 7 := by omega
      have hnM : (n : Int) * (89 * M) ≤ 7 * (89 * M) := Int.mul_le_mul_of_nonneg_right (by omega) (by omega)
      have HSX := hide hsx
      clear hsx
      generalize tsum (fun i => wt i k * a (8 * line + i)) n = S at *
      generalize (n : Int) * (89 * M) = Z at *
      go_wp2_with fail
      generalize hv : a (8 * line + n) = v at *
      generalize wt n k = t at *
      go_quiet (fail)
      go_wp2
      go_roundw
      case rel => exact ⟨n + 1, _, by omega, by go_num, by rw [HSX.out], rfl⟩
      case measure => simp [intOf]; omega
    · have hn8 : n = 8 := by omega
      subst hn8
      go_wp2
      go_ret
      exact ⟨rfl, below_drewN (Below.refl _ _) _⟩
end Go.Proofs.YtimkedfdeghmnaaDoor
