/- The walks of the package whole and of its reference: each function leaves the world as it is. -/
import Derived.Test.YtimkedfdeghmnaaDoorProg
import Derived.Test.YtimkedfdeghmnaaDoorMath
import Derived.WalkKit
import Derived.WalkLawsBesides
import Derived.WalkSpells
import Derived.Deep.QuietTactic
import Derived.BigQuiet
namespace Go.Proofs.YtimkedfdeghmnaaDoor
open Go.RowKit

theorem hide {p : Prop} (h : p) : Hid p := h

theorem ret_int {k : IntKind} {a b : Int} (h : a = b) : Ending.returned (.int k a) = .returned (.int k b) := by rw [h]

theorem clip_call (n lo hi : Int) (w : World) :
    Calls Tryd.prog 21 #[.int .i64 n, .int .i64 lo, .int .i64 hi] w fun e w' => e = .returned (.int .i64 (clip n lo hi)) ∧ w = w' := by
  unfold clip
  by_cases h1 : hi < lo
  · rw [if_pos h1]
    go_enter Tryd.func21, Tryd.ntmps21
    go_wp2
    all_goals go_ret
    all_goals exact ⟨rfl, rfl⟩
  · rw [if_neg h1]
    by_cases h2 : n < lo
    · rw [if_pos h2]
      go_enter Tryd.func21, Tryd.ntmps21
      go_wp2
      all_goals go_ret
      all_goals exact ⟨rfl, rfl⟩
    · rw [if_neg h2]
      by_cases h3 : hi < n
      · rw [if_pos h3]
        go_enter Tryd.func21, Tryd.ntmps21
        go_wp2
        all_goals go_ret
        all_goals exact ⟨rfl, rfl⟩
      · rw [if_neg h3]
        go_enter Tryd.func21, Tryd.ntmps21
        go_wp2
        all_goals go_ret
        all_goals exact ⟨rfl, rfl⟩

theorem refClip_call (n lo hi : Int) (w : World) :
    Calls Tryd.prog 18 #[.int .i64 n, .int .i64 lo, .int .i64 hi] w fun e w' => e = .returned (.int .i64 (clip n lo hi)) ∧ w = w' := by
  unfold clip
  by_cases h1 : hi < lo
  · rw [if_pos h1]
    go_enter Tryd.func18, Tryd.ntmps18
    go_wp2
    all_goals go_ret
    all_goals exact ⟨rfl, rfl⟩
  · rw [if_neg h1]
    by_cases h2 : n < lo
    · rw [if_pos h2]
      go_enter Tryd.func18, Tryd.ntmps18
      go_wp2
      all_goals go_ret
      all_goals exact ⟨rfl, rfl⟩
    · rw [if_neg h2]
      by_cases h3 : hi < n
      · rw [if_pos h3]
        go_enter Tryd.func18, Tryd.ntmps18
        go_wp2
        all_goals go_ret
        all_goals exact ⟨rfl, rfl⟩
      · rw [if_neg h3]
        go_enter Tryd.func18, Tryd.ntmps18
        go_wp2
        all_goals go_ret
        all_goals exact ⟨rfl, rfl⟩

theorem round_call (n bits : Int) (w : World) :
    Calls Tryd.prog 22 #[.int .i64 n, .int .i64 bits] w fun e w' => e = .returned (.int .i64 (round n bits)) ∧ w = w' := by
  unfold round
  have hn := clip_bd (n := n) (lo := -1099511627776) (hi := 1099511627776) (by omega)
  have hb := clip_bd (n := bits) (lo := 0) (hi := 32) (by omega)
  obtain ⟨hn1, hn2⟩ := hn
  obtain ⟨hb1, hb2⟩ := hb
  by_cases h0 : clip bits 0 32 = 0
  · rw [if_pos h0]
    have h0b : (clip bits 0 32 == 0) = true := by simp [h0]
    clear h0
    go_enter Tryd.func22, Tryd.ntmps22
    go_wp2_with fail
    refine (clip_call _ _ _ _).mono ?_
    rintro e w' ⟨rfl, rfl⟩
    go_wp2_with fail
    refine (clip_call _ _ _ _).mono ?_
    rintro e w' ⟨rfl, rfl⟩
    go_wp2
    go_ret
    exact ⟨rfl, rfl⟩
  · rw [if_neg h0]
    have h0b : (clip bits 0 32 == 0) = false := by simp [h0]
    have h1 : 0 < clip bits 0 32 := by omega
    clear h0
    go_enter Tryd.func22, Tryd.ntmps22
    go_wp2_with fail
    refine (clip_call _ _ _ _).mono ?_
    rintro e w' ⟨rfl, rfl⟩
    go_wp2_with fail
    refine (clip_call _ _ _ _).mono ?_
    rintro e w' ⟨rfl, rfl⟩
    go_wp2
    go_ret
    exact ⟨ret_int (round_shape hn1 hn2 (by omega)), rfl⟩

theorem refClip_named {n lo hi r : Int} (h : clip n lo hi = r) (w : World) :
    Calls Tryd.prog 18 #[.int .i64 n, .int .i64 lo, .int .i64 hi] w fun e w' => e = .returned (.int .i64 r) ∧ w = w' := by
  rw [← h]; exact refClip_call n lo hi w

theorem refRound_core (n bits c : Int) (b : Nat) (hc : Hid (clip n (-1099511627776) 1099511627776 = c)) (hbn : Hid (clip bits 0 32 = (b : Int)))
    (hn1 : -1099511627776 ≤ c) (hn2 : c ≤ 1099511627776) (h1 : 0 < b) (hb2 : b ≤ 32) (w : World) :
    Calls Tryd.prog 19 #[.int .i64 n, .int .i64 bits] w fun e w' => e = .returned (.int .i64 ((c + 2 ^ (b - 1)) / 2 ^ b)) ∧ w = w' := by
  have h0b : ((b : Int) == 0) = false := by rw [beq_eq_false_iff_ne]; omega
  go_enter Tryd.func19, Tryd.ntmps19
  go_wp2_with fail
  refine (refClip_named hc.out _).mono ?_
  rintro e w' ⟨rfl, rfl⟩
  go_wp2_with fail
  refine (refClip_named hbn.out _).mono ?_
  rintro e w' ⟨rfl, rfl⟩
  go_wp2
  go_loop [5, 6] (fun y i => ∃ k : Nat, k ≤ b ∧ i = .int .i64 k ∧ y = .int .i64 (2 ^ k)) (fun _ i => b - (intOf i).toNat)
  case atStart => exact ⟨0, Nat.zero_le _, rfl, rfl⟩
  case round =>
    obtain ⟨k, hk, rfl, rfl⟩ := hrel
    have hp := pow_bd k (by omega)
    obtain ⟨hp1, hp2⟩ := hp
    by_cases hlt : k < b
    · go_wp2
      go_round
      case rel => exact ⟨k + 1, by omega, by go_num, by rw [pow_succ2]⟩
      case measure => simp [intOf]; omega
    · obtain rfl : k = b := by omega
      go_wp2
      all_goals go_ret
      all_goals refine ⟨ret_int ?_, rfl⟩
      all_goals rw [← half_pow h1]
      · exact floor_less (by omega) hp2 (by omega) ‹_› ‹_›
      · exact floor_even (by omega) hp2 (by omega) ‹_› ‹_›
      · exact Int.tdiv_eq_ediv_of_nonneg ‹_›

theorem refRound_call (n bits : Int) (w : World) :
    Calls Tryd.prog 19 #[.int .i64 n, .int .i64 bits] w fun e w' => e = .returned (.int .i64 (round n bits)) ∧ w = w' := by
  unfold round
  have hn := clip_bd (n := n) (lo := -1099511627776) (hi := 1099511627776) (by omega)
  have hb := clip_bd (n := bits) (lo := 0) (hi := 32) (by omega)
  obtain ⟨hn1, hn2⟩ := hn
  obtain ⟨hb1, hb2⟩ := hb
  by_cases h0 : clip bits 0 32 = 0
  · rw [if_pos h0]
    have h0b : (clip bits 0 32 == 0) = true := by simp [h0]
    clear h0
    go_enter Tryd.func19, Tryd.ntmps19
    go_wp2_with fail
    refine (refClip_call _ _ _ _).mono ?_
    rintro e w' ⟨rfl, rfl⟩
    go_wp2_with fail
    refine (refClip_call _ _ _ _).mono ?_
    rintro e w' ⟨rfl, rfl⟩
    go_wp2
    go_ret
    exact ⟨rfl, rfl⟩
  · rw [if_neg h0]
    exact refRound_core n bits _ (clip bits 0 32).toNat rfl (show _ = _ by omega) hn1 hn2 (by omega) (by omega) w

end Go.Proofs.YtimkedfdeghmnaaDoor
