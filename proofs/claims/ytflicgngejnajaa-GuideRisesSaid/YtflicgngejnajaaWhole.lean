/- The walks of the package whole and of its reference: each function leaves the world as it is. -/
import Derived.Test.YtflicgngejnajaaProg
import Derived.Test.YtflicgngejnajaaMath
import Derived.WalkKit
import Derived.WalkLawsBesides
import Derived.WalkSpells
import Derived.Deep.QuietTactic
import Derived.BigQuiet
namespace Go.Proofs.Ytflicgngejnajaa
open Go.RowKit

theorem hide {p : Prop} (h : p) : Hid p := h

theorem ret_int {k : IntKind} {a b : Int} (h : a = b) : Ending.returned (.int k a) = .returned (.int k b) := by rw [h]

theorem clip_call (n lo hi : Int) (w : World) :
    Calls Try.prog 17 #[.int .i64 n, .int .i64 lo, .int .i64 hi] w fun e w' => e = .returned (.int .i64 (clip n lo hi)) ∧ w = w' := by
  unfold clip
  by_cases h1 : hi < lo
  · rw [if_pos h1]
    go_enter Try.func17, Try.ntmps17
    go_wp2
    all_goals go_ret
    all_goals exact ⟨rfl, rfl⟩
  · rw [if_neg h1]
    by_cases h2 : n < lo
    · rw [if_pos h2]
      go_enter Try.func17, Try.ntmps17
      go_wp2
      all_goals go_ret
      all_goals exact ⟨rfl, rfl⟩
    · rw [if_neg h2]
      by_cases h3 : hi < n
      · rw [if_pos h3]
        go_enter Try.func17, Try.ntmps17
        go_wp2
        all_goals go_ret
        all_goals exact ⟨rfl, rfl⟩
      · rw [if_neg h3]
        go_enter Try.func17, Try.ntmps17
        go_wp2
        all_goals go_ret
        all_goals exact ⟨rfl, rfl⟩

theorem refClip_call (n lo hi : Int) (w : World) :
    Calls Try.prog 20 #[.int .i64 n, .int .i64 lo, .int .i64 hi] w fun e w' => e = .returned (.int .i64 (clip n lo hi)) ∧ w = w' := by
  unfold clip
  by_cases h1 : hi < lo
  · rw [if_pos h1]
    go_enter Try.func20, Try.ntmps20
    go_wp2
    all_goals go_ret
    all_goals exact ⟨rfl, rfl⟩
  · rw [if_neg h1]
    by_cases h2 : n < lo
    · rw [if_pos h2]
      go_enter Try.func20, Try.ntmps20
      go_wp2
      all_goals go_ret
      all_goals exact ⟨rfl, rfl⟩
    · rw [if_neg h2]
      by_cases h3 : hi < n
      · rw [if_pos h3]
        go_enter Try.func20, Try.ntmps20
        go_wp2
        all_goals go_ret
        all_goals exact ⟨rfl, rfl⟩
      · rw [if_neg h3]
        go_enter Try.func20, Try.ntmps20
        go_wp2
        all_goals go_ret
        all_goals exact ⟨rfl, rfl⟩

theorem share_call (n part all : Int) (w : World) :
    Calls Try.prog 18 #[.int .i64 n, .int .i64 part, .int .i64 all] w fun e w' => e = .returned (.int .i64 (share n part all)) ∧ w = w' := by
  unfold share
  have hn := clip_bd (n := n) (lo := 0) (hi := 2147483647) (by omega)
  have ha := clip_bd (n := all) (lo := 0) (hi := 2147483647) (by omega)
  have hp := clip_bd (n := part) (lo := 0) (hi := clip all 0 2147483647) (by omega)
  have hm := mul_share_bd hn.1 hn.2 hp.1 hp.2 ha.2
  by_cases h0 : clip all 0 2147483647 = 0
  · rw [if_pos h0]
    have h0b : (clip all 0 2147483647 == 0) = true := by simp [h0]
    clear h0 hm hp
    go_enter Try.func18, Try.ntmps18
    go_wp2_with fail
    refine (clip_call _ _ _ _).mono ?_
    rintro e w' ⟨rfl, rfl⟩
    go_wp2_with fail
    refine (clip_call _ _ _ _).mono ?_
    rintro e w' ⟨rfl, rfl⟩
    go_wp2
    go_ret
    exact ⟨rfl, rfl⟩
  · rw [if_neg h0]
    have h0b : (clip all 0 2147483647 == 0) = false := by simp [h0]
    have h1 : 0 < clip all 0 2147483647 := by omega
    clear h0
    obtain ⟨hm1, hm2⟩ := hm
    go_enter Try.func18, Try.ntmps18
    go_wp2_with fail
    refine (clip_call _ _ _ _).mono ?_
    rintro e w' ⟨rfl, rfl⟩
    go_wp2_with fail
    refine (clip_call _ _ _ _).mono ?_
    rintro e w' ⟨rfl, rfl⟩
    go_wp2_with fail
    refine (clip_call _ _ _ _).mono ?_
    rintro e w' ⟨rfl, rfl⟩
    go_wp2
    go_ret
    exact ⟨rfl, rfl⟩

theorem refShare_call (n part all : Int) (w : World) :
    Calls Try.prog 21 #[.int .i64 n, .int .i64 part, .int .i64 all] w fun e w' => e = .returned (.int .i64 (share n part all)) ∧ w = w' := by
  unfold share
  have hn := clip_bd (n := n) (lo := 0) (hi := 2147483647) (by omega)
  have ha := clip_bd (n := all) (lo := 0) (hi := 2147483647) (by omega)
  have hp := clip_bd (n := part) (lo := 0) (hi := clip all 0 2147483647) (by omega)
  have hm := mul_share_bd hn.1 hn.2 hp.1 hp.2 ha.2
  by_cases h0 : clip all 0 2147483647 = 0
  · rw [if_pos h0]
    have h0b : (clip all 0 2147483647 == 0) = true := by simp [h0]
    clear h0 hm hp
    go_enter Try.func21, Try.ntmps21
    go_wp2_with fail
    refine (refClip_call _ _ _ _).mono ?_
    rintro e w' ⟨rfl, rfl⟩
    go_wp2_with fail
    refine (refClip_call _ _ _ _).mono ?_
    rintro e w' ⟨rfl, rfl⟩
    go_wp2_with fail
    refine (refClip_call _ _ _ _).mono ?_
    rintro e w' ⟨rfl, rfl⟩
    go_wp2
    go_ret
    exact ⟨rfl, rfl⟩
  · rw [if_neg h0]
    have h0b : (clip all 0 2147483647 == 0) = false := by simp [h0]
    have h1 : 0 < clip all 0 2147483647 := by omega
    clear h0
    obtain ⟨hm1, hm2⟩ := hm
    go_enter Try.func21, Try.ntmps21
    go_wp2_with fail
    refine (refClip_call _ _ _ _).mono ?_
    rintro e w' ⟨rfl, rfl⟩
    go_wp2_with fail
    refine (refClip_call _ _ _ _).mono ?_
    rintro e w' ⟨rfl, rfl⟩
    go_wp2_with fail
    refine (refClip_call _ _ _ _).mono ?_
    rintro e w' ⟨rfl, rfl⟩
    go_wp2
    go_ret
    exact ⟨rfl, rfl⟩

end Go.Proofs.Ytflicgngejnajaa
