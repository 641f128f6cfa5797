/- The walks of bucket.After and guide.First and of their references. -/
import Derived.Test.YtflicgngejnajaaWhole
import Derived.Test.YtflicgngejnajaaOpen
namespace Go.Proofs.Ytflicgngejnajaa
open Go.RowKit
attribute [local go_sem] setCell_drewN alloc_drewN

/-- The level behind a sheet. -/
def after (l d b : Int) : Int := max 0 (clip l 0 1073741824 - clip d 0 1073741824) + clip b 0 1073741824
/-- The floor that is tried first. -/
def gfirst (bu dr le : Int) (pi : Bool) (level : Int) : Int := if pi = true then 1 else clip le 1 31 + share (31 - clip le 1 31) (after level dr 0) bu
/-- A Conf as a value. -/
abbrev confV (bu dr le st tr : Int) (ro sf pi : Bool) : Value := .agg #[.int .i64 bu, .int .i64 dr, .int .i64 le, .int .i64 st, .int .i64 tr, .bool ro, .bool sf, .bool pi]

theorem share_le (n part all : Int) : 0 ≤ share n part all ∧ (0 ≤ n → share n part all ≤ n) := by
  have hn := clip_bd (n := n) (lo := 0) (hi := 2147483647) (by omega)
  have ha := clip_bd (n := all) (lo := 0) (hi := 2147483647) (by omega)
  have hp := clip_bd (n := part) (lo := 0) (hi := clip all 0 2147483647) (by omega)
  have hc : 0 ≤ n → clip n 0 2147483647 ≤ n := by unfold clip; intro h; (repeat' split) <;> omega
  unfold share
  split
  · exact ⟨by omega, fun h => h⟩
  · have h0 : 0 < clip all 0 2147483647 := by omega
    refine ⟨Int.ediv_nonneg (Int.mul_nonneg hn.1 hp.1) ha.1, fun h => ?_⟩
    have h1 : clip n 0 2147483647 * clip part 0 (clip all 0 2147483647) / clip all 0 2147483647 ≤ clip n 0 2147483647 :=
      Int.ediv_le_of_le_mul h0 (Int.mul_le_mul_of_nonneg_left hp.2 hn.1)
    exact Int.le_trans h1 (hc h)

theorem gfirst_bd (bu dr le : Int) (pi : Bool) (level : Int) : 1 ≤ gfirst bu dr le pi level ∧ gfirst bu dr le pi level ≤ 31 := by
  have h := clip_bd (n := le) (lo := 1) (hi := 31) (by omega)
  have h2 := share_le (31 - clip le 1 31) (after level dr 0) bu
  unfold gfirst
  split <;> omega

theorem after_call (l d b : Int) (w : World) :
    Calls Try.prog 19 #[.int .i64 l, .int .i64 d, .int .i64 b] w fun e w' => e = .returned (.int .i64 (after l d b)) ∧ w = w' := by
  have h1 := clip_bd (n := l) (lo := 0) (hi := 1073741824) (by omega)
  have h2 := clip_bd (n := d) (lo := 0) (hi := 1073741824) (by omega)
  have h3 := clip_bd (n := b) (lo := 0) (hi := 1073741824) (by omega)
  obtain ⟨a1, a2⟩ := h1
  obtain ⟨b1, b2⟩ := h2
  obtain ⟨c1, c2⟩ := h3
  unfold after
  go_enter Try.func19, Try.ntmps19
  go_wp2_with fail
  refine (clip_call _ _ _ _).mono ?_
  rintro e w' ⟨rfl, rfl⟩
  go_wp2_with fail
  refine (clip_call _ _ _ _).mono ?_
  rintro e w' ⟨rfl, rfl⟩
  go_wp2_with fail
  refine (clip_call _ _ _ _).mono ?_
  rintro e w' ⟨rfl, rfl⟩
  go_wp2
  all_goals go_ret
  all_goals exact ⟨ret_int (by omega), rfl⟩

theorem refAfter_call (l d b : Int) (w : World) :
    Calls Try.prog 22 #[.int .i64 l, .int .i64 d, .int .i64 b] w fun e w' => e = .returned (.int .i64 (after l d b)) ∧ w = w' := by
  have h1 := clip_bd (n := l) (lo := 0) (hi := 1073741824) (by omega)
  have h2 := clip_bd (n := d) (lo := 0) (hi := 1073741824) (by omega)
  have h3 := clip_bd (n := b) (lo := 0) (hi := 1073741824) (by omega)
  obtain ⟨a1, a2⟩ := h1
  obtain ⟨b1, b2⟩ := h2
  obtain ⟨c1, c2⟩ := h3
  unfold after
  by_cases hlt : clip l 0 1073741824 - clip d 0 1073741824 < 0
  all_goals
    go_enter Try.func22, Try.ntmps22
    go_wp2_with fail
    refine (refClip_call _ _ _ _).mono ?_
    rintro e w' ⟨rfl, rfl⟩
    go_wp2_with fail
    refine (refClip_call _ _ _ _).mono ?_
    rintro e w' ⟨rfl, rfl⟩
    go_wp2_with fail
    refine (refClip_call _ _ _ _).mono ?_
    rintro e w' ⟨rfl, rfl⟩
    go_wp2
    go_ret
    exact ⟨ret_int (by omega), rfl⟩

theorem first_call (bu dr le st tr : Int) (ro sf pi : Bool) (level : Int) (w : World) :
    Calls Try.prog 6 #[confV bu dr le st tr ro sf pi, .int .i64 level] w fun e w' => e = .returned (.int .i64 (gfirst bu dr le pi level)) ∧ Below w.heap.size w w' := by
  have hc := clip_bd (n := le) (lo := 1) (hi := 31) (by omega)
  obtain ⟨hc1, hc2⟩ := hc
  obtain ⟨hs1, hs2⟩ := share_le (31 - clip le 1 31) (after level dr 0) bu
  replace hs2 := hs2 (by omega)
  unfold gfirst
  cases pi
  · rw [if_neg (by decide)]
    go_enter Try.func6, Try.ntmps6
    go_wp2_with fail
    refine (clip_call _ _ _ _).mono ?_
    rintro e w' ⟨rfl, rfl⟩
    go_wp2_with fail
    go_quiet ((first | (go_at_call 19; exact Calls.quiet_of_same ((after_call _ _ _ _).mono fun _ _ h => ⟨h.1, h.2.symm⟩)) | (go_at_call 18; exact Calls.quiet_of_same ((share_call _ _ _ _).mono fun _ _ h => ⟨h.1, h.2.symm⟩))))
    go_wp2
    go_ret
    exact ⟨rfl, below_drewN (below_alloc (Below.refl _ _) _) _⟩
  · rw [if_pos rfl]
    go_enter Try.func6, Try.ntmps6
    go_wp2_with fail
    go_ret
    exact ⟨rfl, below_alloc (Below.refl _ _) _⟩

theorem refFirst_call (bu dr le st tr : Int) (ro sf pi : Bool) (level : Int) (w : World) :
    Calls Try.prog 7 #[confV bu dr le st tr ro sf pi, .int .i64 level] w fun e w' => e = .returned (.int .i64 (gfirst bu dr le pi level)) ∧ Below w.heap.size w w' := by
  have hc := clip_bd (n := le) (lo := 1) (hi := 31) (by omega)
  obtain ⟨hc1, hc2⟩ := hc
  obtain ⟨hs1, hs2⟩ := share_le (31 - clip le 1 31) (after level dr 0) bu
  replace hs2 := hs2 (by omega)
  unfold gfirst
  cases pi
  · rw [if_neg (by decide)]
    go_enter Try.func7, Try.ntmps7
    go_wp2_with fail
    refine (refClip_call _ _ _ _).mono ?_
    rintro e w' ⟨rfl, rfl⟩
    go_wp2_with fail
    go_quiet ((first | (go_at_call 22; exact Calls.quiet_of_same ((refAfter_call _ _ _ _).mono fun _ _ h => ⟨h.1, h.2.symm⟩)) | (go_at_call 21; exact Calls.quiet_of_same ((refShare_call _ _ _ _).mono fun _ _ h => ⟨h.1, h.2.symm⟩))))
    go_wp2
    go_ret
    exact ⟨rfl, below_drewN (below_alloc (Below.refl _ _) _) _⟩
  · rw [if_pos rfl]
    go_enter Try.func7, Try.ntmps7
    go_wp2_with fail
    go_ret
    exact ⟨rfl, below_alloc (Below.refl _ _) _⟩

end Go.Proofs.Ytflicgngejnajaa
