/- The walks of the package 'whole' and of its reference: each function leaves the world as it is. -/
import Derived.Test.YtimkedfdeghmnaaProg
import Derived.Test.YtimkedfdeghmnaaMath
import Derived.WalkKit
import Derived.WalkLawsBesides
import Derived.WalkSpells
import Derived.Deep.QuietTactic
import Derived.BigQuiet
namespace Go.Proofs.Ytimkedfdeghmnaa
open Go.RowKit

theorem hide {p : Prop} (h : p) : Hid p := h

theorem and_low (x : Int) (j : Nat) (hj : j ≤ 31) : bits .and .i64 x ((2 ^ j - 1 : Nat) : Int) = x % ((2 ^ j : Nat) : Int) := by
  have hp : 2 ^ j ≤ 2147483648 := Nat.le_trans (Nat.pow_le_pow_right (by omega) hj) (by decide)
  have hp0 : 0 < 2 ^ j := Nat.two_pow_pos j
  show IntKind.i64.wrap ((BitVec.ofInt 64 x &&& BitVec.ofInt 64 ((2 ^ j - 1 : Nat) : Int)).toNat : Int) = _
  rw [BitVec.toNat_and, BitVec.ofInt_natCast, BitVec.toNat_ofNat, Nat.mod_eq_of_lt (by omega), Nat.and_two_pow_sub_one_eq_mod, BitVec.toNat_ofInt, IntKind.wrap_i64]
  have hd : (2 ^ j : Nat) ∣ 2 ^ 64 := Nat.pow_dvd_pow 2 (by omega)
  have h1 : (((x % ((2 ^ 64 : Nat) : Int)).toNat % 2 ^ j : Nat) : Int) = x % ((2 ^ j : Nat) : Int) := by
    rw [Int.natCast_emod, Int.toNat_of_nonneg (Int.emod_nonneg _ (by decide))]
    exact Int.emod_emod_of_dvd _ (Int.natCast_dvd_natCast.2 hd)
  rw [h1]
  have h2 := Int.emod_nonneg x (b := ((2 ^ j : Nat) : Int)) (by omega)
  have h3 := Int.emod_lt_of_pos x (b := ((2 ^ j : Nat) : Int)) (by omega)
  omega

theorem and63 (x : Int) : bits .and .i64 x 63 = x % 64 := and_low x 6 (by omega)
theorem and31 (x : Int) : bits .and .i64 x 31 = x % 32 := and_low x 5 (by omega)

theorem ret_int {k : IntKind} {a b : Int} (h : a = b) : Ending.returned (.int k a) = .returned (.int k b) := by rw [h]

theorem clip_call (n lo hi : Int) (w : World) :
    Calls Try.prog 12 #[.int .i64 n, .int .i64 lo, .int .i64 hi] w fun e w' => e = .returned (.int .i64 (clip n lo hi)) ∧ w = w' := by
  unfold clip
  by_cases h1 : hi < lo
  · rw [if_pos h1]
    go_enter Try.func12, Try.ntmps12
    go_wp2
    all_goals go_ret
    all_goals exact ⟨rfl, rfl⟩
  · rw [if_neg h1]
    by_cases h2 : n < lo
    · rw [if_pos h2]
      go_enter Try.func12, Try.ntmps12
      go_wp2
      all_goals go_ret
      all_goals exact ⟨rfl, rfl⟩
    · rw [if_neg h2]
      by_cases h3 : hi < n
      · rw [if_pos h3]
        go_enter Try.func12, Try.ntmps12
        go_wp2
        all_goals go_ret
        all_goals exact ⟨rfl, rfl⟩
      · rw [if_neg h3]
        go_enter Try.func12, Try.ntmps12
        go_wp2
        all_goals go_ret
        all_goals exact ⟨rfl, rfl⟩

theorem refClip_call (n lo hi : Int) (w : World) :
    Calls Try.prog 13 #[.int .i64 n, .int .i64 lo, .int .i64 hi] w fun e w' => e = .returned (.int .i64 (clip n lo hi)) ∧ w = w' := by
  unfold clip
  by_cases h1 : hi < lo
  · rw [if_pos h1]
    go_enter Try.func13, Try.ntmps13
    go_wp2
    all_goals go_ret
    all_goals exact ⟨rfl, rfl⟩
  · rw [if_neg h1]
    by_cases h2 : n < lo
    · rw [if_pos h2]
      go_enter Try.func13, Try.ntmps13
      go_wp2
      all_goals go_ret
      all_goals exact ⟨rfl, rfl⟩
    · rw [if_neg h2]
      by_cases h3 : hi < n
      · rw [if_pos h3]
        go_enter Try.func13, Try.ntmps13
        go_wp2
        all_goals go_ret
        all_goals exact ⟨rfl, rfl⟩
      · rw [if_neg h3]
        go_enter Try.func13, Try.ntmps13
        go_wp2
        all_goals go_ret
        all_goals exact ⟨rfl, rfl⟩

theorem middle_call (a b c : Int) (w : World) :
    Calls Try.prog 14 #[.int .i64 a, .int .i64 b, .int .i64 c] w fun e w' => e = .returned (.int .i64 (middle a b c)) ∧ w = w' := by
  unfold middle
  go_enter Try.func14, Try.ntmps14
  go_wp2
  all_goals go_ret
  all_goals exact ⟨ret_int (by omega), rfl⟩

theorem refMiddle_call (a b c : Int) (w : World) :
    Calls Try.prog 15 #[.int .i64 a, .int .i64 b, .int .i64 c] w fun e w' => e = .returned (.int .i64 (middle a b c)) ∧ w = w' := by
  unfold middle
  go_enter Try.func15, Try.ntmps15
  go_wp2
  all_goals go_ret
  all_goals exact ⟨ret_int (by (repeat' split) <;> omega), rfl⟩

theorem wrap_call (n : Int) (w : World) :
    Calls Try.prog 17 #[.int .i64 n] w fun e w' => e = .returned (.int .i64 (wrapv n)) ∧ w = w' := by
  unfold wrapv
  go_enter Try.func17, Try.ntmps17
  go_wp2
  all_goals go_ret
  all_goals exact ⟨ret_int (by have := tmod64 n; unfold wrap64 at *; omega), rfl⟩

theorem refWrap_call (n : Int) (w : World) :
    Calls Try.prog 18 #[.int .i64 n] w fun e w' => e = .returned (.int .i64 (wrapv n)) ∧ w = w' := by
  unfold wrapv
  go_enter Try.func18, Try.ntmps18
  go_wp2
  all_goals go_ret
  all_goals exact ⟨ret_int (by have := tmod64 n; unfold wrap64 at *; omega), rfl⟩

theorem share_call (n part all : Int) (w : World) :
    Calls Try.prog 19 #[.int .i64 n, .int .i64 part, .int .i64 all] w fun e w' => e = .returned (.int .i64 (share n part all)) ∧ w = w' := by
  unfold share
  have hn := clip_bd (n := n) (lo := 0) (hi := 2147483647) (by omega)
  have ha := clip_bd (n := all) (lo := 0) (hi := 2147483647) (by omega)
  have hp := clip_bd (n := part) (lo := 0) (hi := clip all 0 2147483647) (by omega)
  have hm := mul_share_bd hn.1 hn.2 hp.1 hp.2 ha.2
  by_cases h0 : clip all 0 2147483647 = 0
  · rw [if_pos h0]
    have h0b : (clip all 0 2147483647 == 0) = true := by simp [h0]
    clear h0 hm hp
    go_enter Try.func19, Try.ntmps19
    go_wp2_with fail
    refine (clip_call _ _ _ _).mono ?_
    rintro e w' ⟨rfl, rfl⟩
    go_wp2_with fail
    refine (clip_call _ _ _ _).mono ?_
    rintro e w' ⟨rfl, rfl⟩
    go_wp2
    go_ret
    exact ⟨rfl, rfl⟩
  · rw [if_neg h0]
    have h0b : (clip all 0 2147483647 == 0) = false := by simp [h0]
    have h1 : 0 < clip all 0 2147483647 := by omega
    clear h0
    obtain ⟨hm1, hm2⟩ := hm
    go_enter Try.func19, Try.ntmps19
    go_wp2_with fail
    refine (clip_call _ _ _ _).mono ?_
    rintro e w' ⟨rfl, rfl⟩
    go_wp2_with fail
    refine (clip_call _ _ _ _).mono ?_
    rintro e w' ⟨rfl, rfl⟩
    go_wp2_with fail
    refine (clip_call _ _ _ _).mono ?_
    rintro e w' ⟨rfl, rfl⟩
    go_wp2
    go_ret
    exact ⟨rfl, rfl⟩

theorem refShare_call (n part all : Int) (w : World) :
    Calls Try.prog 20 #[.int .i64 n, .int .i64 part, .int .i64 all] w fun e w' => e = .returned (.int .i64 (share n part all)) ∧ w = w' := by
  unfold share
  have hn := clip_bd (n := n) (lo := 0) (hi := 2147483647) (by omega)
  have ha := clip_bd (n := all) (lo := 0) (hi := 2147483647) (by omega)
  have hp := clip_bd (n := part) (lo := 0) (hi := clip all 0 2147483647) (by omega)
  have hm := mul_share_bd hn.1 hn.2 hp.1 hp.2 ha.2
  by_cases h0 : clip all 0 2147483647 = 0
  · rw [if_pos h0]
    have h0b : (clip all 0 2147483647 == 0) = true := by simp [h0]
    clear h0 hm hp
    go_enter Try.func20, Try.ntmps20
    go_wp2_with fail
    refine (refClip_call _ _ _ _).mono ?_
    rintro e w' ⟨rfl, rfl⟩
    go_wp2_with fail
    refine (refClip_call _ _ _ _).mono ?_
    rintro e w' ⟨rfl, rfl⟩
    go_wp2_with fail
    refine (refClip_call _ _ _ _).mono ?_
    rintro e w' ⟨rfl, rfl⟩
    go_wp2
    go_ret
    exact ⟨rfl, rfl⟩
  · rw [if_neg h0]
    have h0b : (clip all 0 2147483647 == 0) = false := by simp [h0]
    have h1 : 0 < clip all 0 2147483647 := by omega
    clear h0
    obtain ⟨hm1, hm2⟩ := hm
    go_enter Try.func20, Try.ntmps20
    go_wp2_with fail
    refine (refClip_call _ _ _ _).mono ?_
    rintro e w' ⟨rfl, rfl⟩
    go_wp2_with fail
    refine (refClip_call _ _ _ _).mono ?_
    rintro e w' ⟨rfl, rfl⟩
    go_wp2_with fail
    refine (refClip_call _ _ _ _).mono ?_
    rintro e w' ⟨rfl, rfl⟩
    go_wp2
    go_ret
    exact ⟨rfl, rfl⟩

theorem round_call (n bits : Int) (w : World) :
    Calls Try.prog 21 #[.int .i64 n, .int .i64 bits] w fun e w' => e = .returned (.int .i64 (round n bits)) ∧ w = w' := by
  unfold round
  have hn := clip_bd (n := n) (lo := -1099511627776) (hi := 1099511627776) (by omega)
  have hb := clip_bd (n := bits) (lo := 0) (hi := 32) (by omega)
  obtain ⟨hn1, hn2⟩ := hn
  obtain ⟨hb1, hb2⟩ := hb
  by_cases h0 : clip bits 0 32 = 0
  · rw [if_pos h0]
    have h0b : (clip bits 0 32 == 0) = true := by simp [h0]
    clear h0
    go_enter Try.func21, Try.ntmps21
    go_wp2_with fail
    refine (clip_call _ _ _ _).mono ?_
    rintro e w' ⟨rfl, rfl⟩
    go_wp2_with fail
    refine (clip_call _ _ _ _).mono ?_
    rintro e w' ⟨rfl, rfl⟩
    go_wp2
    go_ret
    exact ⟨rfl, rfl⟩
  · rw [if_neg h0]
    have h0b : (clip bits 0 32 == 0) = false := by simp [h0]
    have h1 : 0 < clip bits 0 32 := by omega
    clear h0
    go_enter Try.func21, Try.ntmps21
    go_wp2_with fail
    refine (clip_call _ _ _ _).mono ?_
    rintro e w' ⟨rfl, rfl⟩
    go_wp2_with fail
    refine (clip_call _ _ _ _).mono ?_
    rintro e w' ⟨rfl, rfl⟩
    go_wp2
    go_ret
    exact ⟨ret_int (round_shape hn1 hn2 (by omega)), rfl⟩

/-- A clip's call, its result under a name. -/
theorem refClip_named {n lo hi r : Int} (h : clip n lo hi = r) (w : World) :
    Calls Try.prog 13 #[.int .i64 n, .int .i64 lo, .int .i64 hi] w fun e w' => e = .returned (.int .i64 r) ∧ w = w' := by
  rw [← h]; exact refClip_call n lo hi w

theorem refRound_core (n bits c : Int) (b : Nat) (hc : Hid (clip n (-1099511627776) 1099511627776 = c)) (hbn : Hid (clip bits 0 32 = (b : Int)))
    (hn1 : -1099511627776 ≤ c) (hn2 : c ≤ 1099511627776) (h1 : 0 < b) (hb2 : b ≤ 32) (w : World) :
    Calls Try.prog 22 #[.int .i64 n, .int .i64 bits] w fun e w' => e = .returned (.int .i64 ((c + 2 ^ (b - 1)) / 2 ^ b)) ∧ w = w' := by
  have h0b : ((b : Int) == 0) = false := by rw [beq_eq_false_iff_ne]; omega
  go_enter Try.func22, Try.ntmps22
  go_wp2_with fail
  refine (refClip_named hc.out _).mono ?_
  rintro e w' ⟨rfl, rfl⟩
  go_wp2_with fail
  refine (refClip_named hbn.out _).mono ?_
  rintro e w' ⟨rfl, rfl⟩
  go_wp2
  go_loop [5, 6] (fun y i => ∃ k : Nat, k ≤ b ∧ i = .int .i64 k ∧ y = .int .i64 (2 ^ k)) (fun _ i => b - (intOf i).toNat)
  case atStart => exact ⟨0, Nat.zero_le _, rfl, rfl⟩
  case round =>
    obtain ⟨k, hk, rfl, rfl⟩ := hrel
    have hp := pow_bd k (by omega)
    obtain ⟨hp1, hp2⟩ := hp
    by_cases hlt : k < b
    · go_wp2
      go_round
      case rel => exact ⟨k + 1, by omega, by go_num, by rw [pow_succ2]⟩
      case measure => simp [intOf]; omega
    · obtain rfl : k = b := by omega
      go_wp2
      all_goals go_ret
      all_goals refine ⟨ret_int ?_, rfl⟩
      all_goals rw [← half_pow h1]
      · exact floor_less (by omega) hp2 (by omega) ‹_› ‹_›
      · exact floor_even (by omega) hp2 (by omega) ‹_› ‹_›
      · exact Int.tdiv_eq_ediv_of_nonneg ‹_›

theorem refRound_call (n bits : Int) (w : World) :
    Calls Try.prog 22 #[.int .i64 n, .int .i64 bits] w fun e w' => e = .returned (.int .i64 (round n bits)) ∧ w = w' := by
  unfold round
  have hn := clip_bd (n := n) (lo := -1099511627776) (hi := 1099511627776) (by omega)
  have hb := clip_bd (n := bits) (lo := 0) (hi := 32) (by omega)
  obtain ⟨hn1, hn2⟩ := hn
  obtain ⟨hb1, hb2⟩ := hb
  by_cases h0 : clip bits 0 32 = 0
  · rw [if_pos h0]
    have h0b : (clip bits 0 32 == 0) = true := by simp [h0]
    clear h0
    go_enter Try.func22, Try.ntmps22
    go_wp2_with fail
    refine (refClip_call _ _ _ _).mono ?_
    rintro e w' ⟨rfl, rfl⟩
    go_wp2_with fail
    refine (refClip_call _ _ _ _).mono ?_
    rintro e w' ⟨rfl, rfl⟩
    go_wp2
    go_ret
    exact ⟨rfl, rfl⟩
  · rw [if_neg h0]
    exact refRound_core n bits _ (clip bits 0 32).toNat rfl (show _ = _ by omega) hn1 hn2 (by omega) (by omega) w

/-- The examples of the chapter hold. -/
theorem lives_call (w : World) : Calls Try.prog 16 #[] w fun e w' => e = .returned (.bool true) ∧ w = w' := by
  go_enter Try.func16, Try.ntmps16
  go_wp2_with fail
  refine (clip_call _ _ _ _).mono ?_
  rintro e w' ⟨rfl, rfl⟩
  rw [show clip 7 0 5 = 5 from by decide]
  go_wp2_with fail
  refine (wrap_call _ _).mono ?_
  rintro e w' ⟨rfl, rfl⟩
  rw [show wrapv 32 = -32 from by decide]
  go_wp2_with fail
  refine (middle_call _ _ _ _).mono ?_
  rintro e w' ⟨rfl, rfl⟩
  rw [show middle 3 1 2 = 2 from by decide]
  go_wp2_with fail
  refine (share_call _ _ _ _).mono ?_
  rintro e w' ⟨rfl, rfl⟩
  rw [show share 10 1 3 = 3 from by decide]
  go_wp2_with fail
  refine (round_call _ _ _).mono ?_
  rintro e w' ⟨rfl, rfl⟩
  rw [show round 3 1 = 2 from by decide]
  go_wp2
  go_ret
  exact ⟨rfl, rfl⟩
end Go.Proofs.Ytimkedfdeghmnaa
