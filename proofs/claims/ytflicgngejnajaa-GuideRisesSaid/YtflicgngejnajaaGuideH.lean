/- The walks of GuideRises. -/
import Derived.Test.YtflicgngejnajaaGuideG
import Derived.Deep.RegionHeld3
import Derived.StillTailTactics
namespace Go.Proofs.Ytflicgngejnajaa
open Go.RowKit
set_option linter.unusedVariables false
set_option linter.unusedSimpArgs false
attribute [local go_sem] setCell_drewN alloc_drewN

theorem wpStill_skip {P : Program} {ops : Array Oper} {w : World} {Q : Act → Prop} {a : Act} {o : Oper} {rest : List Oper} (hw : Region.wanted o (yielded ops a.tmps) = false) (h : wpStill P ops w Q rest (a.put o.dst undef)) : wpStill P ops w Q (o :: rest) a :=
  wpStill_step fun K hK => by rw [if_neg (by rw [hw]; exact Bool.false_ne_true)]; exact hK _ h
attribute [local irreducible] wpList wpStill

theorem minmax_if (x : Int) : (if 31 < if x < 1 then 1 else x then 31 else if x < 1 then 1 else x) = clip x 1 31 := by
  unfold clip
  rw [if_neg (by omega : ¬ (31 : Int) < 1)]
  (repeat' split) <;> omega

set_option maxHeartbeats 4000000 in
set_option maxRecDepth 100000 in
theorem rises_pin (bu dr le st tr : Int) (ro sf : Bool) (level : Int) (more : Int) (w : World) (hm0 : 0 ≤ more) (hm1 : more ≤ 65535) (c9 : Hid (∀ W, Calls Try.prog 9 #[confV bu dr le st tr ro sf true, .int .i64 level] W (MadeInts [1] W))) :
    Calls Try.prog 5 #[confV bu dr le st tr ro sf true, .int .i64 level, .int .u16 more] w fun e w' => e = .returned (.bool true) ∧ Below w.heap.size w w' := by
  go_enter Try.func5, Try.ntmps5
  go_wp2_with fail
  refine (c9.out _).mono ?_
  rintro e w1 ⟨v, rfl, hv, hb⟩
  have HS : w1.cell? ⟨w.heap.size, 0, none⟩ = some (.int .i64 bu) ∧ w1.cell? ⟨w.heap.size, 1, none⟩ = some (.int .i64 dr) ∧ w1.cell? ⟨w.heap.size, 2, none⟩ = some (.int .i64 le) ∧ w1.cell? ⟨w.heap.size, 3, none⟩ = some (.int .i64 st) ∧ w1.cell? ⟨w.heap.size, 4, none⟩ = some (.int .i64 tr) ∧ w1.cell? ⟨w.heap.size, 5, none⟩ = some (.bool ro) ∧ w1.cell? ⟨w.heap.size, 6, none⟩ = some (.bool sf) ∧ w1.cell? ⟨w.heap.size, 7, none⟩ = some (.bool true) ∧ w.heap.size < w1.heap.size := confKeepS hb (by simp [go_sem])
  have BB := hide ((below_alloc (Below.refl w.heap.size w) (.cells #[.int .i64 bu, .int .i64 dr, .int .i64 le, .int .i64 st, .int .i64 tr, .bool ro, .bool sf, .bool true] 23)).trans (hb.mono (by simp)))
  clear hb
  obtain ⟨a, cap, rfl, hc⟩ := hv
  have hmt := minmax_if tr
  have hT := clip_bd (n := tr) (lo := 1) (hi := 31) (by omega)
  generalize clip tr 1 31 = T at hmt hT
  obtain ⟨hT1, hT2⟩ := hT
  have hTd : decide (T < 1) = false := by simp; omega
  obtain ⟨b, off, rfl, hlt, hcell⟩ := hc (by simp)
  have l0 := hcell 0 (by simp)
  simp at l0
  clear hcell hc
  obtain ⟨g0, g1, g2, g3, g4, g5, g6, g7, g8⟩ := HS
  go_wp2_with fail
  go_quiet (fail)
  clear hmt
  generalize (if tr < 1 then (1 : Int) else tr) = mx
  go_wp2_with fail
  refine (lives42_call _).mono ?_
  rintro e w2 ⟨rfl, hb2⟩
  have BE := hide (bstep (below_drewN BB.out _) hb2)
  clear hb2
  go_wp2
  go_ret
  exact ⟨rfl, BE.out⟩

theorem keepH {b b2 off : Nat} {W W' : World} {v v0 v1 v2 v3 v4 v5 v6 v7 : Value} (hb : Below W.heap.size W W') (h : W.cell? ⟨b, off, none⟩ = some v ∧ b < W.heap.size ∧ W.cell? ⟨b2, 0, none⟩ = some (v0) ∧ W.cell? ⟨b2, 1, none⟩ = some (v1) ∧ W.cell? ⟨b2, 2, none⟩ = some (v2) ∧ W.cell? ⟨b2, 3, none⟩ = some (v3) ∧ W.cell? ⟨b2, 4, none⟩ = some (v4) ∧ W.cell? ⟨b2, 5, none⟩ = some (v5) ∧ W.cell? ⟨b2, 6, none⟩ = some (v6) ∧ W.cell? ⟨b2, 7, none⟩ = some (v7) ∧ b2 < W.heap.size) : W'.cell? ⟨b, off, none⟩ = some v ∧ b < W'.heap.size ∧ W'.cell? ⟨b2, 0, none⟩ = some (v0) ∧ W'.cell? ⟨b2, 1, none⟩ = some (v1) ∧ W'.cell? ⟨b2, 2, none⟩ = some (v2) ∧ W'.cell? ⟨b2, 3, none⟩ = some (v3) ∧ W'.cell? ⟨b2, 4, none⟩ = some (v4) ∧ W'.cell? ⟨b2, 5, none⟩ = some (v5) ∧ W'.cell? ⟨b2, 6, none⟩ = some (v6) ∧ W'.cell? ⟨b2, 7, none⟩ = some (v7) ∧ b2 < W'.heap.size := by
  obtain ⟨h0, h1, h2⟩ := h
  exact ⟨by rw [hb.cell (p := ⟨b, off, none⟩) h1]; exact h0, Nat.lt_of_lt_of_le h1 hb.size, confKeepS hb h2⟩

set_option maxHeartbeats 4000000 in
set_option maxRecDepth 100000 in
theorem rises_many_mid (bu dr le st tr : Int) (ro sf : Bool) (level : Int) (more : Int) (w : World) (hm0 : 0 ≤ more) (hm1 : more ≤ 65535) (f e : Int) (he : Hid (clip le 1 31 = e)) (hef : e ≤ f) (hf : f ≤ 31) (he1 : 1 ≤ e) (m : Nat) (L : List Int) (hm : Hid (L.length = m + 2)) (hmT : (m : Int) + 2 ≤ clip tr 1 31) (hhead : Hid (L.getD 0 0 = f)) (hrise : Hid (∀ i, i + 1 < m + 2 → L.getD i 0 < L.getD (i + 1) 0)) (hlast : Hid (L.getD (m + 1) 0 = 31))
    (c9 : Hid (∀ W, Calls Try.prog 9 #[confV bu dr le st tr ro sf false, .int .i64 level] W (MadeInts L W)))
    (c6 : Hid (∀ W, Calls Try.prog 6 #[confV bu dr le st tr ro sf false, .int .i64 level] W fun e w' => e = .returned (.int .i64 f) ∧ Below W.heap.size W w'))
    (hl0 : 0 ≤ level) (hl1 : level ≤ 1099511627776) (f2 : Int) (hf2 : f ≤ f2) (c6b : Hid (∀ W, Calls Try.prog 6 #[confV bu dr le st tr ro sf false, .int .i64 (level + more)] W fun e w' => e = .returned (.int .i64 f2) ∧ Below W.heap.size W w')) :
    Calls Try.prog 5 #[confV bu dr le st tr ro sf false, .int .i64 level, .int .u16 more] w fun e w' => e = .returned (.bool true) ∧ Below w.heap.size w w' := by
  go_enter Try.func5, Try.ntmps5
  go_wp2_with fail
  refine (c9.out _).mono ?_
  rintro e w1 ⟨v, rfl, hv, hb⟩
  have HS : w1.cell? ⟨w.heap.size, 0, none⟩ = some (.int .i64 bu) ∧ w1.cell? ⟨w.heap.size, 1, none⟩ = some (.int .i64 dr) ∧ w1.cell? ⟨w.heap.size, 2, none⟩ = some (.int .i64 le) ∧ w1.cell? ⟨w.heap.size, 3, none⟩ = some (.int .i64 st) ∧ w1.cell? ⟨w.heap.size, 4, none⟩ = some (.int .i64 tr) ∧ w1.cell? ⟨w.heap.size, 5, none⟩ = some (.bool ro) ∧ w1.cell? ⟨w.heap.size, 6, none⟩ = some (.bool sf) ∧ w1.cell? ⟨w.heap.size, 7, none⟩ = some (.bool false) ∧ w.heap.size < w1.heap.size := confKeepS hb (by simp [go_sem])
  have BB := hide ((below_alloc (Below.refl w.heap.size w) (.cells #[.int .i64 bu, .int .i64 dr, .int .i64 le, .int .i64 st, .int .i64 tr, .bool ro, .bool sf, .bool false] 23)).trans (hb.mono (by simp)))
  clear hb
  obtain ⟨a, cap, rfl, hc⟩ := hv
  have hmt := minmax_if tr
  obtain ⟨mx, hmx⟩ : ∃ x, (if tr < 1 then (1 : Int) else tr) = x := ⟨_, rfl⟩
  rw [hmx] at hmt
  have hT := clip_bd (n := tr) (lo := 1) (hi := 31) (by omega)
  generalize clip tr 1 31 = T at *
  obtain ⟨hT1, hT2⟩ := hT
  have hTd : decide (T < (m : Int) + 2) = false := by simp; omega
  have hm2 : ((m : Int) + 2 == 0) = false := by rw [beq_eq_false_iff_ne]; omega
  obtain ⟨b, off, rfl, hlt, hcell⟩ := hc (by intro h; have := hm.out; rw [h] at this; simp at this)
  rw [hm.out] at hcell ⊢
  have l0 := hcell 0 (by omega)
  rw [hhead.out, Nat.add_zero] at l0
  have HC := hide hcell
  clear hc hcell
  have HS := And.intro l0 (And.intro hlt HS)
  go_wp2_with fail
  have hn1 : (1 : Int) < (m : Int) + 2 := by omega
  have hn0 : (0 : Int) < (m : Int) + 2 := by omega
  have hn2 : 0 < m + 2 := by omega
  go_region_held3 (fun W' => W'.cell? ⟨b, off, none⟩ = some (.int .i64 f) ∧ b < W'.heap.size ∧ W'.cell? ⟨w.heap.size, 0, none⟩ = some (.int .i64 bu) ∧ W'.cell? ⟨w.heap.size, 1, none⟩ = some (.int .i64 dr) ∧ W'.cell? ⟨w.heap.size, 2, none⟩ = some (.int .i64 le) ∧ W'.cell? ⟨w.heap.size, 3, none⟩ = some (.int .i64 st) ∧ W'.cell? ⟨w.heap.size, 4, none⟩ = some (.int .i64 tr) ∧ W'.cell? ⟨w.heap.size, 5, none⟩ = some (.bool ro) ∧ W'.cell? ⟨w.heap.size, 6, none⟩ = some (.bool sf) ∧ W'.cell? ⟨w.heap.size, 7, none⟩ = some (.bool false) ∧ w.heap.size < W'.heap.size)
    (first | (refine keepH ?_ ‹_›; assumption) | (refine keepH (below_alloc (Below.refl _ _) _) ‹_›) | (refine keepH ((Below.refl _ _).drew) ‹_›))
    (first | (go_at_call 6; (with_reducible refine (c6.out _).mono ?_); rintro e w2 ⟨rfl, hb2⟩))
  have hb12 := bstep ((Below.refl w1.heap.size w1).drew) hb2
  obtain ⟨k0, k1, HS2⟩ := keepH hb12 HS
  have HC2 : Hid (∀ i, i < m + 2 → w2.cell? ⟨b, off + i, none⟩ = some (.int .i64 (L.getD i 0))) := hide (fun i hi => by rw [hb12.cell (p := ⟨b, off + i, none⟩) hlt]; exact HC.out i hi)
  have HB2 := hide (bstep BB.out.drew hb2)
  clear hb2 hb12 HS l0 k0 HC hlt hmt hTd hmx
  rename_i HSX
  clear HSX
  go_wp2_with fail
  go_loopw [8] (fun i wr => ∃ j q : Nat, j ≤ m + 1 ∧ i = .int .i64 ((j : Int) + 1) ∧ wr = w2.drewN q) (fun i _ => m + 2 - (intOf i).toNat)
  case atStart => exact ⟨0, 0, by omega, rfl, rfl⟩
  case round =>
    obtain ⟨j, q, hj, rfl, rfl⟩ := hrel
    by_cases hlt : (j : Int) + 1 < (m : Int) + 2
    · have x0 := HC2.out j (by omega)
      have x1 := HC2.out (j + 1) (by omega)
      have x2 := hrise.out j (by omega)
      generalize L.getD j 0 = y0 at *
      generalize L.getD (j + 1) 0 = y1 at *
      go_wp2_with fail
      go_quiet (fail)
      go_wp2
      go_roundw
      case rel => exact ⟨j + 1, _, by omega, by go_num, rfl⟩
      case measure => simp [intOf]; omega
    · have hbq := below_drewN (Below.refl w2.heap.size w2) q
      have HS3 := confKeepS hbq HS2
      have y0 : (w2.drewN q).cell? ⟨b, off, none⟩ = some (.int .i64 f) := by rw [hbq.cell (p := ⟨b, off, none⟩) k1]; have h := HC2.out 0 (by omega); rw [hhead.out] at h; exact h
      have y1 : (w2.drewN q).cell? ⟨b, off + (m + 1), none⟩ = some (.int .i64 31) := by rw [hbq.cell (p := ⟨b, off + (m + 1), none⟩) k1]; have h := HC2.out (m + 1) (by omega); rw [hlast.out] at h; exact h
      have HB3 := hide (HB2.out.trans (hbq.mono HB2.out.size))
      clear hbq HS2 HC2 HB2 k1
      generalize w2.drewN q = w3 at *
      have hme := minmax_if le
      rw [he.out] at hme
      obtain ⟨my, hmy⟩ : ∃ x, (if le < 1 then (1 : Int) else le) = x := ⟨_, rfl⟩
      rw [hmy] at hme
      have hfe : decide (f < e) = false := by simp; omega
      have hf31 : decide (31 < f) = false := by simp; omega
      have K3 := hide HS3
      obtain ⟨g0, g1, g2, g3, g4, g5, g6, g7, g8⟩ := HS3
      go_wp2_with fail
      refine (c6.out _).mono ?_
      rintro e4 w4 ⟨rfl, hb4⟩
      have HS4 := confKeepS hb4 K3.out
      have HB4 := hide (bstep HB3.out hb4)
      clear hb4 g0 g1 g2 g3 g4 g5 g6 g7 g8 K3 HB3 y0 y1 hme hmy
      have K4 := hide HS4
      obtain ⟨g0, g1, g2, g3, g4, g5, g6, g7, g8⟩ := HS4
      go_wp2_with fail
      refine (c6.out _).mono ?_
      rintro e5 w5 ⟨rfl, hb5⟩
      have HS5 := confKeepS hb5 K4.out
      have HB5 := hide (bstep HB4.out hb5)
      clear hb5 g0 g1 g2 g3 g4 g5 g6 g7 g8 K4 HB4
      go_wp2_with fail
      have hw1 : IntKind.i64.wrap more = more := by rw [IntKind.wrap_i64]; omega
      have hw2 : IntKind.i64.wrap (level + more) = level + more := by rw [IntKind.wrap_i64]; omega
      have hff : decide (f ≤ f2) = true := by simp; omega
      have hd1 : decide (level < 0) = false := by simp; omega
      have hd2 : decide (1099511627776 < level) = false := by simp; omega
      go_region_held3 (fun W' => W'.cell? ⟨w.heap.size, 0, none⟩ = some (.int .i64 bu) ∧ W'.cell? ⟨w.heap.size, 1, none⟩ = some (.int .i64 dr) ∧ W'.cell? ⟨w.heap.size, 2, none⟩ = some (.int .i64 le) ∧ W'.cell? ⟨w.heap.size, 3, none⟩ = some (.int .i64 st) ∧ W'.cell? ⟨w.heap.size, 4, none⟩ = some (.int .i64 tr) ∧ W'.cell? ⟨w.heap.size, 5, none⟩ = some (.bool ro) ∧ W'.cell? ⟨w.heap.size, 6, none⟩ = some (.bool sf) ∧ W'.cell? ⟨w.heap.size, 7, none⟩ = some (.bool false) ∧ w.heap.size < W'.heap.size)
        (first | (refine confKeepS ?_ ‹_›; assumption) | (refine confKeepS (below_alloc (Below.refl _ _) _) ‹_›) | (refine confKeepS ((Below.refl _ _).drew) ‹_›))
        (first | (go_at_call 6; (with_reducible refine (c6b.out _).mono ?_); rintro e w6 ⟨rfl, hb6⟩) | (go_at_call 6; (with_reducible refine (c6.out _).mono ?_); rintro e w7 ⟨rfl, hb7⟩) | (go_at_call 11; (with_reducible refine (lives42_call _).mono ?_); rintro e w8 ⟨rfl, hb8⟩))
      all_goals
        have BZ : Below w.heap.size w w8 := bstep (bstep (bstep HB5.out.drew hb6) hb7) hb8
        have BE := hide BZ
        clear BZ hb6 hb7 hb8 HS5 HB5
        go_wp2
        go_ret
        exact ⟨rfl, BE.out⟩

set_option maxHeartbeats 4000000 in
set_option maxRecDepth 100000 in
theorem rises_many_lo (bu dr le st tr : Int) (ro sf : Bool) (level : Int) (more : Int) (w : World) (hm0 : 0 ≤ more) (hm1 : more ≤ 65535) (f e : Int) (he : Hid (clip le 1 31 = e)) (hef : e ≤ f) (hf : f ≤ 31) (he1 : 1 ≤ e) (m : Nat) (L : List Int) (hm : Hid (L.length = m + 2)) (hmT : (m : Int) + 2 ≤ clip tr 1 31) (hhead : Hid (L.getD 0 0 = f)) (hrise : Hid (∀ i, i + 1 < m + 2 → L.getD i 0 < L.getD (i + 1) 0)) (hlast : Hid (L.getD (m + 1) 0 = 31))
    (c9 : Hid (∀ W, Calls Try.prog 9 #[confV bu dr le st tr ro sf false, .int .i64 level] W (MadeInts L W)))
    (c6 : Hid (∀ W, Calls Try.prog 6 #[confV bu dr le st tr ro sf false, .int .i64 level] W fun e w' => e = .returned (.int .i64 f) ∧ Below W.heap.size W w')) (hl0 : level < 0) :
    Calls Try.prog 5 #[confV bu dr le st tr ro sf false, .int .i64 level, .int .u16 more] w fun e w' => e = .returned (.bool true) ∧ Below w.heap.size w w' := by
  go_enter Try.func5, Try.ntmps5
  go_wp2_with fail
  refine (c9.out _).mono ?_
  rintro e w1 ⟨v, rfl, hv, hb⟩
  have HS : w1.cell? ⟨w.heap.size, 0, none⟩ = some (.int .i64 bu) ∧ w1.cell? ⟨w.heap.size, 1, none⟩ = some (.int .i64 dr) ∧ w1.cell? ⟨w.heap.size, 2, none⟩ = some (.int .i64 le) ∧ w1.cell? ⟨w.heap.size, 3, none⟩ = some (.int .i64 st) ∧ w1.cell? ⟨w.heap.size, 4, none⟩ = some (.int .i64 tr) ∧ w1.cell? ⟨w.heap.size, 5, none⟩ = some (.bool ro) ∧ w1.cell? ⟨w.heap.size, 6, none⟩ = some (.bool sf) ∧ w1.cell? ⟨w.heap.size, 7, none⟩ = some (.bool false) ∧ w.heap.size < w1.heap.size := confKeepS hb (by simp [go_sem])
  have BB := hide ((below_alloc (Below.refl w.heap.size w) (.cells #[.int .i64 bu, .int .i64 dr, .int .i64 le, .int .i64 st, .int .i64 tr, .bool ro, .bool sf, .bool false] 23)).trans (hb.mono (by simp)))
  clear hb
  obtain ⟨a, cap, rfl, hc⟩ := hv
  have hmt := minmax_if tr
  obtain ⟨mx, hmx⟩ : ∃ x, (if tr < 1 then (1 : Int) else tr) = x := ⟨_, rfl⟩
  rw [hmx] at hmt
  have hT := clip_bd (n := tr) (lo := 1) (hi := 31) (by omega)
  generalize clip tr 1 31 = T at *
  obtain ⟨hT1, hT2⟩ := hT
  have hTd : decide (T < (m : Int) + 2) = false := by simp; omega
  have hm2 : ((m : Int) + 2 == 0) = false := by rw [beq_eq_false_iff_ne]; omega
  obtain ⟨b, off, rfl, hlt, hcell⟩ := hc (by intro h; have := hm.out; rw [h] at this; simp at this)
  rw [hm.out] at hcell ⊢
  have l0 := hcell 0 (by omega)
  rw [hhead.out, Nat.add_zero] at l0
  have HC := hide hcell
  clear hc hcell
  have HS := And.intro l0 (And.intro hlt HS)
  go_wp2_with fail
  have hn1 : (1 : Int) < (m : Int) + 2 := by omega
  have hn0 : (0 : Int) < (m : Int) + 2 := by omega
  have hn2 : 0 < m + 2 := by omega
  go_region_held3 (fun W' => W'.cell? ⟨b, off, none⟩ = some (.int .i64 f) ∧ b < W'.heap.size ∧ W'.cell? ⟨w.heap.size, 0, none⟩ = some (.int .i64 bu) ∧ W'.cell? ⟨w.heap.size, 1, none⟩ = some (.int .i64 dr) ∧ W'.cell? ⟨w.heap.size, 2, none⟩ = some (.int .i64 le) ∧ W'.cell? ⟨w.heap.size, 3, none⟩ = some (.int .i64 st) ∧ W'.cell? ⟨w.heap.size, 4, none⟩ = some (.int .i64 tr) ∧ W'.cell? ⟨w.heap.size, 5, none⟩ = some (.bool ro) ∧ W'.cell? ⟨w.heap.size, 6, none⟩ = some (.bool sf) ∧ W'.cell? ⟨w.heap.size, 7, none⟩ = some (.bool false) ∧ w.heap.size < W'.heap.size)
    (first | (refine keepH ?_ ‹_›; assumption) | (refine keepH (below_alloc (Below.refl _ _) _) ‹_›) | (refine keepH ((Below.refl _ _).drew) ‹_›))
    (first | (go_at_call 6; (with_reducible refine (c6.out _).mono ?_); rintro e w2 ⟨rfl, hb2⟩))
  have hb12 := bstep ((Below.refl w1.heap.size w1).drew) hb2
  obtain ⟨k0, k1, HS2⟩ := keepH hb12 HS
  have HC2 : Hid (∀ i, i < m + 2 → w2.cell? ⟨b, off + i, none⟩ = some (.int .i64 (L.getD i 0))) := hide (fun i hi => by rw [hb12.cell (p := ⟨b, off + i, none⟩) hlt]; exact HC.out i hi)
  have HB2 := hide (bstep BB.out.drew hb2)
  clear hb2 hb12 HS l0 k0 HC hlt hmt hTd hmx
  rename_i HSX
  clear HSX
  go_wp2_with fail
  go_loopw [8] (fun i wr => ∃ j q : Nat, j ≤ m + 1 ∧ i = .int .i64 ((j : Int) + 1) ∧ wr = w2.drewN q) (fun i _ => m + 2 - (intOf i).toNat)
  case atStart => exact ⟨0, 0, by omega, rfl, rfl⟩
  case round =>
    obtain ⟨j, q, hj, rfl, rfl⟩ := hrel
    by_cases hlt : (j : Int) + 1 < (m : Int) + 2
    · have x0 := HC2.out j (by omega)
      have x1 := HC2.out (j + 1) (by omega)
      have x2 := hrise.out j (by omega)
      generalize L.getD j 0 = y0 at *
      generalize L.getD (j + 1) 0 = y1 at *
      go_wp2_with fail
      go_quiet (fail)
      go_wp2
      go_roundw
      case rel => exact ⟨j + 1, _, by omega, by go_num, rfl⟩
      case measure => simp [intOf]; omega
    · have hbq := below_drewN (Below.refl w2.heap.size w2) q
      have HS3 := confKeepS hbq HS2
      have y0 : (w2.drewN q).cell? ⟨b, off, none⟩ = some (.int .i64 f) := by rw [hbq.cell (p := ⟨b, off, none⟩) k1]; have h := HC2.out 0 (by omega); rw [hhead.out] at h; exact h
      have y1 : (w2.drewN q).cell? ⟨b, off + (m + 1), none⟩ = some (.int .i64 31) := by rw [hbq.cell (p := ⟨b, off + (m + 1), none⟩) k1]; have h := HC2.out (m + 1) (by omega); rw [hlast.out] at h; exact h
      have HB3 := hide (HB2.out.trans (hbq.mono HB2.out.size))
      clear hbq HS2 HC2 HB2 k1
      generalize w2.drewN q = w3 at *
      have hme := minmax_if le
      rw [he.out] at hme
      obtain ⟨my, hmy⟩ : ∃ x, (if le < 1 then (1 : Int) else le) = x := ⟨_, rfl⟩
      rw [hmy] at hme
      have hfe : decide (f < e) = false := by simp; omega
      have hf31 : decide (31 < f) = false := by simp; omega
      have K3 := hide HS3
      obtain ⟨g0, g1, g2, g3, g4, g5, g6, g7, g8⟩ := HS3
      go_wp2_with fail
      refine (c6.out _).mono ?_
      rintro e4 w4 ⟨rfl, hb4⟩
      have HS4 := confKeepS hb4 K3.out
      have HB4 := hide (bstep HB3.out hb4)
      clear hb4 g0 g1 g2 g3 g4 g5 g6 g7 g8 K3 HB3 y0 y1 hme hmy
      have K4 := hide HS4
      obtain ⟨g0, g1, g2, g3, g4, g5, g6, g7, g8⟩ := HS4
      go_wp2_with fail
      refine (c6.out _).mono ?_
      rintro e5 w5 ⟨rfl, hb5⟩
      have HS5 := confKeepS hb5 K4.out
      have HB5 := hide (bstep HB4.out hb5)
      clear hb5 g0 g1 g2 g3 g4 g5 g6 g7 g8 K4 HB4
      go_wp2_with fail
      have hd1 : decide (level < 0) = true := by simp; omega
      refine wp_region_still_tail 19 (by kernel_rfl) (by kernel_rfl) ?_
      change wpStill Try.prog _ (World.drew _) (fun a' => wpList _ _ _ _ a' (World.drew _)) _ _
      simp only [List.take_succ_cons, List.take_zero, List.drop_succ_cons, List.drop_zero]
      iterate 3 still_step
      iterate 2 (refine wpStill_skip (by kernel_rfl) ?_)
      iterate 2 still_step
      iterate 10 (refine wpStill_skip (by kernel_rfl) ?_)
      iterate 2 still_step
      refine wpStill_nil ?_
      go_wp2_with fail
      refine (lives42_call _).mono ?_
      rintro e6 w6 ⟨rfl, hb6⟩
      have BE := hide (bstep HB5.out.drew hb6)
      clear hb6 HS5 HB5
      go_wp2
      go_ret
      exact ⟨rfl, BE.out⟩

set_option maxHeartbeats 4000000 in
set_option maxRecDepth 100000 in
theorem rises_many_hi (bu dr le st tr : Int) (ro sf : Bool) (level : Int) (more : Int) (w : World) (hm0 : 0 ≤ more) (hm1 : more ≤ 65535) (f e : Int) (he : Hid (clip le 1 31 = e)) (hef : e ≤ f) (hf : f ≤ 31) (he1 : 1 ≤ e) (m : Nat) (L : List Int) (hm : Hid (L.length = m + 2)) (hmT : (m : Int) + 2 ≤ clip tr 1 31) (hhead : Hid (L.getD 0 0 = f)) (hrise : Hid (∀ i, i + 1 < m + 2 → L.getD i 0 < L.getD (i + 1) 0)) (hlast : Hid (L.getD (m + 1) 0 = 31))
    (c9 : Hid (∀ W, Calls Try.prog 9 #[confV bu dr le st tr ro sf false, .int .i64 level] W (MadeInts L W)))
    (c6 : Hid (∀ W, Calls Try.prog 6 #[confV bu dr le st tr ro sf false, .int .i64 level] W fun e w' => e = .returned (.int .i64 f) ∧ Below W.heap.size W w')) (hl0 : 1099511627776 < level) :
    Calls Try.prog 5 #[confV bu dr le st tr ro sf false, .int .i64 level, .int .u16 more] w fun e w' => e = .returned (.bool true) ∧ Below w.heap.size w w' := by
  go_enter Try.func5, Try.ntmps5
  go_wp2_with fail
  refine (c9.out _).mono ?_
  rintro e w1 ⟨v, rfl, hv, hb⟩
  have HS : w1.cell? ⟨w.heap.size, 0, none⟩ = some (.int .i64 bu) ∧ w1.cell? ⟨w.heap.size, 1, none⟩ = some (.int .i64 dr) ∧ w1.cell? ⟨w.heap.size, 2, none⟩ = some (.int .i64 le) ∧ w1.cell? ⟨w.heap.size, 3, none⟩ = some (.int .i64 st) ∧ w1.cell? ⟨w.heap.size, 4, none⟩ = some (.int .i64 tr) ∧ w1.cell? ⟨w.heap.size, 5, none⟩ = some (.bool ro) ∧ w1.cell? ⟨w.heap.size, 6, none⟩ = some (.bool sf) ∧ w1.cell? ⟨w.heap.size, 7, none⟩ = some (.bool false) ∧ w.heap.size < w1.heap.size := confKeepS hb (by simp [go_sem])
  have BB := hide ((below_alloc (Below.refl w.heap.size w) (.cells #[.int .i64 bu, .int .i64 dr, .int .i64 le, .int .i64 st, .int .i64 tr, .bool ro, .bool sf, .bool false] 23)).trans (hb.mono (by simp)))
  clear hb
  obtain ⟨a, cap, rfl, hc⟩ := hv
  have hmt := minmax_if tr
  obtain ⟨mx, hmx⟩ : ∃ x, (if tr < 1 then (1 : Int) else tr) = x := ⟨_, rfl⟩
  rw [hmx] at hmt
  have hT := clip_bd (n := tr) (lo := 1) (hi := 31) (by omega)
  generalize clip tr 1 31 = T at *
  obtain ⟨hT1, hT2⟩ := hT
  have hTd : decide (T < (m : Int) + 2) = false := by simp; omega
  have hm2 : ((m : Int) + 2 == 0) = false := by rw [beq_eq_false_iff_ne]; omega
  obtain ⟨b, off, rfl, hlt, hcell⟩ := hc (by intro h; have := hm.out; rw [h] at this; simp at this)
  rw [hm.out] at hcell ⊢
  have l0 := hcell 0 (by omega)
  rw [hhead.out, Nat.add_zero] at l0
  have HC := hide hcell
  clear hc hcell
  have HS := And.intro l0 (And.intro hlt HS)
  go_wp2_with fail
  have hn1 : (1 : Int) < (m : Int) + 2 := by omega
  have hn0 : (0 : Int) < (m : Int) + 2 := by omega
  have hn2 : 0 < m + 2 := by omega
  go_region_held3 (fun W' => W'.cell? ⟨b, off, none⟩ = some (.int .i64 f) ∧ b < W'.heap.size ∧ W'.cell? ⟨w.heap.size, 0, none⟩ = some (.int .i64 bu) ∧ W'.cell? ⟨w.heap.size, 1, none⟩ = some (.int .i64 dr) ∧ W'.cell? ⟨w.heap.size, 2, none⟩ = some (.int .i64 le) ∧ W'.cell? ⟨w.heap.size, 3, none⟩ = some (.int .i64 st) ∧ W'.cell? ⟨w.heap.size, 4, none⟩ = some (.int .i64 tr) ∧ W'.cell? ⟨w.heap.size, 5, none⟩ = some (.bool ro) ∧ W'.cell? ⟨w.heap.size, 6, none⟩ = some (.bool sf) ∧ W'.cell? ⟨w.heap.size, 7, none⟩ = some (.bool false) ∧ w.heap.size < W'.heap.size)
    (first | (refine keepH ?_ ‹_›; assumption) | (refine keepH (below_alloc (Below.refl _ _) _) ‹_›) | (refine keepH ((Below.refl _ _).drew) ‹_›))
    (first | (go_at_call 6; (with_reducible refine (c6.out _).mono ?_); rintro e w2 ⟨rfl, hb2⟩))
  have hb12 := bstep ((Below.refl w1.heap.size w1).drew) hb2
  obtain ⟨k0, k1, HS2⟩ := keepH hb12 HS
  have HC2 : Hid (∀ i, i < m + 2 → w2.cell? ⟨b, off + i, none⟩ = some (.int .i64 (L.getD i 0))) := hide (fun i hi => by rw [hb12.cell (p := ⟨b, off + i, none⟩) hlt]; exact HC.out i hi)
  have HB2 := hide (bstep BB.out.drew hb2)
  clear hb2 hb12 HS l0 k0 HC hlt hmt hTd hmx
  rename_i HSX
  clear HSX
  go_wp2_with fail
  go_loopw [8] (fun i wr => ∃ j q : Nat, j ≤ m + 1 ∧ i = .int .i64 ((j : Int) + 1) ∧ wr = w2.drewN q) (fun i _ => m + 2 - (intOf i).toNat)
  case atStart => exact ⟨0, 0, by omega, rfl, rfl⟩
  case round =>
    obtain ⟨j, q, hj, rfl, rfl⟩ := hrel
    by_cases hlt : (j : Int) + 1 < (m : Int) + 2
    · have x0 := HC2.out j (by omega)
      have x1 := HC2.out (j + 1) (by omega)
      have x2 := hrise.out j (by omega)
      generalize L.getD j 0 = y0 at *
      generalize L.getD (j + 1) 0 = y1 at *
      go_wp2_with fail
      go_quiet (fail)
      go_wp2
      go_roundw
      case rel => exact ⟨j + 1, _, by omega, by go_num, rfl⟩
      case measure => simp [intOf]; omega
    · have hbq := below_drewN (Below.refl w2.heap.size w2) q
      have HS3 := confKeepS hbq HS2
      have y0 : (w2.drewN q).cell? ⟨b, off, none⟩ = some (.int .i64 f) := by rw [hbq.cell (p := ⟨b, off, none⟩) k1]; have h := HC2.out 0 (by omega); rw [hhead.out] at h; exact h
      have y1 : (w2.drewN q).cell? ⟨b, off + (m + 1), none⟩ = some (.int .i64 31) := by rw [hbq.cell (p := ⟨b, off + (m + 1), none⟩) k1]; have h := HC2.out (m + 1) (by omega); rw [hlast.out] at h; exact h
      have HB3 := hide (HB2.out.trans (hbq.mono HB2.out.size))
      clear hbq HS2 HC2 HB2 k1
      generalize w2.drewN q = w3 at *
      have hme := minmax_if le
      rw [he.out] at hme
      obtain ⟨my, hmy⟩ : ∃ x, (if le < 1 then (1 : Int) else le) = x := ⟨_, rfl⟩
      rw [hmy] at hme
      have hfe : decide (f < e) = false := by simp; omega
      have hf31 : decide (31 < f) = false := by simp; omega
      have K3 := hide HS3
      obtain ⟨g0, g1, g2, g3, g4, g5, g6, g7, g8⟩ := HS3
      go_wp2_with fail
      refine (c6.out _).mono ?_
      rintro e4 w4 ⟨rfl, hb4⟩
      have HS4 := confKeepS hb4 K3.out
      have HB4 := hide (bstep HB3.out hb4)
      clear hb4 g0 g1 g2 g3 g4 g5 g6 g7 g8 K3 HB3 y0 y1 hme hmy
      have K4 := hide HS4
      obtain ⟨g0, g1, g2, g3, g4, g5, g6, g7, g8⟩ := HS4
      go_wp2_with fail
      refine (c6.out _).mono ?_
      rintro e5 w5 ⟨rfl, hb5⟩
      have HS5 := confKeepS hb5 K4.out
      have HB5 := hide (bstep HB4.out hb5)
      clear hb5 g0 g1 g2 g3 g4 g5 g6 g7 g8 K4 HB4
      go_wp2_with fail
      have hd1 : decide (level < 0) = false := by simp; omega
      have hd2 : decide (1099511627776 < level) = true := by simp; omega
      refine wp_region_still_tail 19 (by kernel_rfl) (by kernel_rfl) ?_
      change wpStill Try.prog _ (World.drew _) (fun a' => wpList _ _ _ _ a' (World.drew _)) _ _
      simp only [List.take_succ_cons, List.take_zero, List.drop_succ_cons, List.drop_zero]
      iterate 7 still_step
      iterate 10 (refine wpStill_skip (by kernel_rfl) ?_)
      iterate 2 still_step
      refine wpStill_nil ?_
      go_wp2_with fail
      refine (lives42_call _).mono ?_
      rintro e6 w6 ⟨rfl, hb6⟩
      have BE := hide (bstep HB5.out.drew hb6)
      clear hb6 HS5 HB5
      go_wp2
      go_ret
      exact ⟨rfl, BE.out⟩

set_option maxHeartbeats 4000000 in
set_option maxRecDepth 100000 in
theorem rises_one_mid (bu dr le st tr : Int) (ro sf : Bool) (level : Int) (more : Int) (w : World) (hm0 : 0 ≤ more) (hm1 : more ≤ 65535) (f e : Int) (he : Hid (clip le 1 31 = e)) (hef : e ≤ f) (hf : f ≤ 31) (he1 : 1 ≤ e)
    (c9 : Hid (∀ W, Calls Try.prog 9 #[confV bu dr le st tr ro sf false, .int .i64 level] W (MadeInts [31] W)))
    (c6 : Hid (∀ W, Calls Try.prog 6 #[confV bu dr le st tr ro sf false, .int .i64 level] W fun e w' => e = .returned (.int .i64 f) ∧ Below W.heap.size W w'))
    (hl0 : 0 ≤ level) (hl1 : level ≤ 1099511627776) (f2 : Int) (hf2 : f ≤ f2) (c6b : Hid (∀ W, Calls Try.prog 6 #[confV bu dr le st tr ro sf false, .int .i64 (level + more)] W fun e w' => e = .returned (.int .i64 f2) ∧ Below W.heap.size W w')) :
    Calls Try.prog 5 #[confV bu dr le st tr ro sf false, .int .i64 level, .int .u16 more] w fun e w' => e = .returned (.bool true) ∧ Below w.heap.size w w' := by
  go_enter Try.func5, Try.ntmps5
  go_wp2_with fail
  refine (c9.out _).mono ?_
  rintro e w1 ⟨v, rfl, hv, hb⟩
  have HS : w1.cell? ⟨w.heap.size, 0, none⟩ = some (.int .i64 bu) ∧ w1.cell? ⟨w.heap.size, 1, none⟩ = some (.int .i64 dr) ∧ w1.cell? ⟨w.heap.size, 2, none⟩ = some (.int .i64 le) ∧ w1.cell? ⟨w.heap.size, 3, none⟩ = some (.int .i64 st) ∧ w1.cell? ⟨w.heap.size, 4, none⟩ = some (.int .i64 tr) ∧ w1.cell? ⟨w.heap.size, 5, none⟩ = some (.bool ro) ∧ w1.cell? ⟨w.heap.size, 6, none⟩ = some (.bool sf) ∧ w1.cell? ⟨w.heap.size, 7, none⟩ = some (.bool false) ∧ w.heap.size < w1.heap.size := confKeepS hb (by simp [go_sem])
  have BB := hide ((below_alloc (Below.refl w.heap.size w) (.cells #[.int .i64 bu, .int .i64 dr, .int .i64 le, .int .i64 st, .int .i64 tr, .bool ro, .bool sf, .bool false] 23)).trans (hb.mono (by simp)))
  clear hb
  obtain ⟨a, cap, rfl, hc⟩ := hv
  have hmt := minmax_if tr
  obtain ⟨mx, hmx⟩ : ∃ x, (if tr < 1 then (1 : Int) else tr) = x := ⟨_, rfl⟩
  rw [hmx] at hmt
  have hT := clip_bd (n := tr) (lo := 1) (hi := 31) (by omega)
  generalize clip tr 1 31 = T at *
  obtain ⟨hT1, hT2⟩ := hT
  have hTd : decide (T < 1) = false := by simp; omega
  obtain ⟨b, off, rfl, hlt, hcell⟩ := hc (by simp)
  have l0 := hcell 0 (by simp)
  simp at l0
  clear hcell hc
  have HSK := hide HS
  obtain ⟨g0, g1, g2, g3, g4, g5, g6, g7, g8⟩ := HS
  go_wp2_with fail
  go_quiet (fail)
  clear hmt hmx g0 g1 g2 g3 g4 g5 g6 g7 g8
  have hbq := below_drewN (Below.refl w1.heap.size w1) nq
  have HS3 := confKeepS hbq HSK.out
  have y0 : (w1.drewN nq).cell? ⟨b, off, none⟩ = some (.int .i64 31) := by rw [hbq.cell (p := ⟨b, off, none⟩) hlt]; exact l0
  have HB3 := hide (BB.out.trans (hbq.mono BB.out.size))
  clear hbq HSK l0 BB hlt
  generalize w1.drewN nq = w3 at *
  have hme := minmax_if le
  rw [he.out] at hme
  obtain ⟨my, hmy⟩ : ∃ x, (if le < 1 then (1 : Int) else le) = x := ⟨_, rfl⟩
  rw [hmy] at hme
  have hfe : decide (f < e) = false := by simp; omega
  have hf31 : decide (31 < f) = false := by simp; omega
  have he31 : decide (31 < e) = false := by simp; omega
  have K3 := hide HS3
  obtain ⟨g0, g1, g2, g3, g4, g5, g6, g7, g8⟩ := HS3
  go_wp2_with fail
  refine wp_loop_rounds 1 ?_
  rw [rounds_succ]
  go_wp2_with fail
  refine (c6.out _).mono ?_
  rintro e4 w4 ⟨rfl, hb4⟩
  have HS4 := confKeepS hb4 K3.out
  have HB4 := hide (bstep HB3.out hb4)
  clear hb4 g0 g1 g2 g3 g4 g5 g6 g7 g8 K3 HB3 y0  hme hmy
  have K4 := hide HS4
  obtain ⟨g0, g1, g2, g3, g4, g5, g6, g7, g8⟩ := HS4
  go_wp2_with fail
  refine (c6.out _).mono ?_
  rintro e5 w5 ⟨rfl, hb5⟩
  have HS5 := confKeepS hb5 K4.out
  have HB5 := hide (bstep HB4.out hb5)
  clear hb5 g0 g1 g2 g3 g4 g5 g6 g7 g8 K4 HB4
  go_wp2_with fail
  have hw1 : IntKind.i64.wrap more = more := by rw [IntKind.wrap_i64]; omega
  have hw2 : IntKind.i64.wrap (level + more) = level + more := by rw [IntKind.wrap_i64]; omega
  have hff : decide (f ≤ f2) = true := by simp; omega
  have hd1 : decide (level < 0) = false := by simp; omega
  have hd2 : decide (1099511627776 < level) = false := by simp; omega
  go_region_held3 (fun W' => W'.cell? ⟨w.heap.size, 0, none⟩ = some (.int .i64 bu) ∧ W'.cell? ⟨w.heap.size, 1, none⟩ = some (.int .i64 dr) ∧ W'.cell? ⟨w.heap.size, 2, none⟩ = some (.int .i64 le) ∧ W'.cell? ⟨w.heap.size, 3, none⟩ = some (.int .i64 st) ∧ W'.cell? ⟨w.heap.size, 4, none⟩ = some (.int .i64 tr) ∧ W'.cell? ⟨w.heap.size, 5, none⟩ = some (.bool ro) ∧ W'.cell? ⟨w.heap.size, 6, none⟩ = some (.bool sf) ∧ W'.cell? ⟨w.heap.size, 7, none⟩ = some (.bool false) ∧ w.heap.size < W'.heap.size)
    (first | (refine confKeepS ?_ ‹_›; assumption) | (refine confKeepS (below_alloc (Below.refl _ _) _) ‹_›) | (refine confKeepS ((Below.refl _ _).drew) ‹_›))
    (first | (go_at_call 6; (with_reducible refine (c6b.out _).mono ?_); rintro e w6 ⟨rfl, hb6⟩) | (go_at_call 6; (with_reducible refine (c6.out _).mono ?_); rintro e w7 ⟨rfl, hb7⟩) | (go_at_call 11; (with_reducible refine (lives42_call _).mono ?_); rintro e w8 ⟨rfl, hb8⟩))
  all_goals
    have BZ : Below w.heap.size w w8 := bstep (bstep (bstep HB5.out.drew hb6) hb7) hb8
    have BE := hide BZ
    clear BZ hb6 hb7 hb8 HS5 HB5
    go_wp2
    go_ret
    exact ⟨rfl, BE.out⟩

set_option maxHeartbeats 4000000 in
set_option maxRecDepth 100000 in
theorem rises_one_lo (bu dr le st tr : Int) (ro sf : Bool) (level : Int) (more : Int) (w : World) (hm0 : 0 ≤ more) (hm1 : more ≤ 65535) (f e : Int) (he : Hid (clip le 1 31 = e)) (hef : e ≤ f) (hf : f ≤ 31) (he1 : 1 ≤ e)
    (c9 : Hid (∀ W, Calls Try.prog 9 #[confV bu dr le st tr ro sf false, .int .i64 level] W (MadeInts [31] W)))
    (c6 : Hid (∀ W, Calls Try.prog 6 #[confV bu dr le st tr ro sf false, .int .i64 level] W fun e w' => e = .returned (.int .i64 f) ∧ Below W.heap.size W w')) (hl0 : level < 0) :
    Calls Try.prog 5 #[confV bu dr le st tr ro sf false, .int .i64 level, .int .u16 more] w fun e w' => e = .returned (.bool true) ∧ Below w.heap.size w w' := by
  go_enter Try.func5, Try.ntmps5
  go_wp2_with fail
  refine (c9.out _).mono ?_
  rintro e w1 ⟨v, rfl, hv, hb⟩
  have HS : w1.cell? ⟨w.heap.size, 0, none⟩ = some (.int .i64 bu) ∧ w1.cell? ⟨w.heap.size, 1, none⟩ = some (.int .i64 dr) ∧ w1.cell? ⟨w.heap.size, 2, none⟩ = some (.int .i64 le) ∧ w1.cell? ⟨w.heap.size, 3, none⟩ = some (.int .i64 st) ∧ w1.cell? ⟨w.heap.size, 4, none⟩ = some (.int .i64 tr) ∧ w1.cell? ⟨w.heap.size, 5, none⟩ = some (.bool ro) ∧ w1.cell? ⟨w.heap.size, 6, none⟩ = some (.bool sf) ∧ w1.cell? ⟨w.heap.size, 7, none⟩ = some (.bool false) ∧ w.heap.size < w1.heap.size := confKeepS hb (by simp [go_sem])
  have BB := hide ((below_alloc (Below.refl w.heap.size w) (.cells #[.int .i64 bu, .int .i64 dr, .int .i64 le, .int .i64 st, .int .i64 tr, .bool ro, .bool sf, .bool false] 23)).trans (hb.mono (by simp)))
  clear hb
  obtain ⟨a, cap, rfl, hc⟩ := hv
  have hmt := minmax_if tr
  obtain ⟨mx, hmx⟩ : ∃ x, (if tr < 1 then (1 : Int) else tr) = x := ⟨_, rfl⟩
  rw [hmx] at hmt
  have hT := clip_bd (n := tr) (lo := 1) (hi := 31) (by omega)
  generalize clip tr 1 31 = T at *
  obtain ⟨hT1, hT2⟩ := hT
  have hTd : decide (T < 1) = false := by simp; omega
  obtain ⟨b, off, rfl, hlt, hcell⟩ := hc (by simp)
  have l0 := hcell 0 (by simp)
  simp at l0
  clear hcell hc
  have HSK := hide HS
  obtain ⟨g0, g1, g2, g3, g4, g5, g6, g7, g8⟩ := HS
  go_wp2_with fail
  go_quiet (fail)
  clear hmt hmx g0 g1 g2 g3 g4 g5 g6 g7 g8
  have hbq := below_drewN (Below.refl w1.heap.size w1) nq
  have HS3 := confKeepS hbq HSK.out
  have y0 : (w1.drewN nq).cell? ⟨b, off, none⟩ = some (.int .i64 31) := by rw [hbq.cell (p := ⟨b, off, none⟩) hlt]; exact l0
  have HB3 := hide (BB.out.trans (hbq.mono BB.out.size))
  clear hbq HSK l0 BB hlt
  generalize w1.drewN nq = w3 at *
  have hme := minmax_if le
  rw [he.out] at hme
  obtain ⟨my, hmy⟩ : ∃ x, (if le < 1 then (1 : Int) else le) = x := ⟨_, rfl⟩
  rw [hmy] at hme
  have hfe : decide (f < e) = false := by simp; omega
  have hf31 : decide (31 < f) = false := by simp; omega
  have he31 : decide (31 < e) = false := by simp; omega
  have K3 := hide HS3
  obtain ⟨g0, g1, g2, g3, g4, g5, g6, g7, g8⟩ := HS3
  go_wp2_with fail
  refine wp_loop_rounds 1 ?_
  rw [rounds_succ]
  go_wp2_with fail
  refine (c6.out _).mono ?_
  rintro e4 w4 ⟨rfl, hb4⟩
  have HS4 := confKeepS hb4 K3.out
  have HB4 := hide (bstep HB3.out hb4)
  clear hb4 g0 g1 g2 g3 g4 g5 g6 g7 g8 K3 HB3 y0  hme hmy
  have K4 := hide HS4
  obtain ⟨g0, g1, g2, g3, g4, g5, g6, g7, g8⟩ := HS4
  go_wp2_with fail
  refine (c6.out _).mono ?_
  rintro e5 w5 ⟨rfl, hb5⟩
  have HS5 := confKeepS hb5 K4.out
  have HB5 := hide (bstep HB4.out hb5)
  clear hb5 g0 g1 g2 g3 g4 g5 g6 g7 g8 K4 HB4
  go_wp2_with fail
  have hd1 : decide (level < 0) = true := by simp; omega
  refine wp_region_still_tail 19 (by kernel_rfl) (by kernel_rfl) ?_
  change wpStill Try.prog _ (World.drew _) (fun a' => wpList _ _ _ _ a' (World.drew _)) _ _
  simp only [List.take_succ_cons, List.take_zero, List.drop_succ_cons, List.drop_zero]
  iterate 3 still_step
  iterate 2 (refine wpStill_skip (by kernel_rfl) ?_)
  iterate 2 still_step
  iterate 10 (refine wpStill_skip (by kernel_rfl) ?_)
  iterate 2 still_step
  refine wpStill_nil ?_
  go_wp2_with fail
  refine (lives42_call _).mono ?_
  rintro e6 w6 ⟨rfl, hb6⟩
  have BE := hide (bstep HB5.out.drew hb6)
  clear hb6 HS5 HB5
  go_wp2
  go_ret
  exact ⟨rfl, BE.out⟩

set_option maxHeartbeats 4000000 in
set_option maxRecDepth 100000 in
theorem rises_one_hi (bu dr le st tr : Int) (ro sf : Bool) (level : Int) (more : Int) (w : World) (hm0 : 0 ≤ more) (hm1 : more ≤ 65535) (f e : Int) (he : Hid (clip le 1 31 = e)) (hef : e ≤ f) (hf : f ≤ 31) (he1 : 1 ≤ e)
    (c9 : Hid (∀ W, Calls Try.prog 9 #[confV bu dr le st tr ro sf false, .int .i64 level] W (MadeInts [31] W)))
    (c6 : Hid (∀ W, Calls Try.prog 6 #[confV bu dr le st tr ro sf false, .int .i64 level] W fun e w' => e = .returned (.int .i64 f) ∧ Below W.heap.size W w')) (hl0 : 1099511627776 < level) :
    Calls Try.prog 5 #[confV bu dr le st tr ro sf false, .int .i64 level, .int .u16 more] w fun e w' => e = .returned (.bool true) ∧ Below w.heap.size w w' := by
  go_enter Try.func5, Try.ntmps5
  go_wp2_with fail
  refine (c9.out _).mono ?_
  rintro e w1 ⟨v, rfl, hv, hb⟩
  have HS : w1.cell? ⟨w.heap.size, 0, none⟩ = some (.int .i64 bu) ∧ w1.cell? ⟨w.heap.size, 1, none⟩ = some (.int .i64 dr) ∧ w1.cell? ⟨w.heap.size, 2, none⟩ = some (.int .i64 le) ∧ w1.cell? ⟨w.heap.size, 3, none⟩ = some (.int .i64 st) ∧ w1.cell? ⟨w.heap.size, 4, none⟩ = some (.int .i64 tr) ∧ w1.cell? ⟨w.heap.size, 5, none⟩ = some (.bool ro) ∧ w1.cell? ⟨w.heap.size, 6, none⟩ = some (.bool sf) ∧ w1.cell? ⟨w.heap.size, 7, none⟩ = some (.bool false) ∧ w.heap.size < w1.heap.size := confKeepS hb (by simp [go_sem])
  have BB := hide ((below_alloc (Below.refl w.heap.size w) (.cells #[.int .i64 bu, .int .i64 dr, .int .i64 le, .int .i64 st, .int .i64 tr, .bool ro, .bool sf, .bool false] 23)).trans (hb.mono (by simp)))
  clear hb
  obtain ⟨a, cap, rfl, hc⟩ := hv
  have hmt := minmax_if tr
  obtain ⟨mx, hmx⟩ : ∃ x, (if tr < 1 then (1 : Int) else tr) = x := ⟨_, rfl⟩
  rw [hmx] at hmt
  have hT := clip_bd (n := tr) (lo := 1) (hi := 31) (by omega)
  generalize clip tr 1 31 = T at *
  obtain ⟨hT1, hT2⟩ := hT
  have hTd : decide (T < 1) = false := by simp; omega
  obtain ⟨b, off, rfl, hlt, hcell⟩ := hc (by simp)
  have l0 := hcell 0 (by simp)
  simp at l0
  clear hcell hc
  have HSK := hide HS
  obtain ⟨g0, g1, g2, g3, g4, g5, g6, g7, g8⟩ := HS
  go_wp2_with fail
  go_quiet (fail)
  clear hmt hmx g0 g1 g2 g3 g4 g5 g6 g7 g8
  have hbq := below_drewN (Below.refl w1.heap.size w1) nq
  have HS3 := confKeepS hbq HSK.out
  have y0 : (w1.drewN nq).cell? ⟨b, off, none⟩ = some (.int .i64 31) := by rw [hbq.cell (p := ⟨b, off, none⟩) hlt]; exact l0
  have HB3 := hide (BB.out.trans (hbq.mono BB.out.size))
  clear hbq HSK l0 BB hlt
  generalize w1.drewN nq = w3 at *
  have hme := minmax_if le
  rw [he.out] at hme
  obtain ⟨my, hmy⟩ : ∃ x, (if le < 1 then (1 : Int) else le) = x := ⟨_, rfl⟩
  rw [hmy] at hme
  have hfe : decide (f < e) = false := by simp; omega
  have hf31 : decide (31 < f) = false := by simp; omega
  have he31 : decide (31 < e) = false := by simp; omega
  have K3 := hide HS3
  obtain ⟨g0, g1, g2, g3, g4, g5, g6, g7, g8⟩ := HS3
  go_wp2_with fail
  refine wp_loop_rounds 1 ?_
  rw [rounds_succ]
  go_wp2_with fail
  refine (c6.out _).mono ?_
  rintro e4 w4 ⟨rfl, hb4⟩
  have HS4 := confKeepS hb4 K3.out
  have HB4 := hide (bstep HB3.out hb4)
  clear hb4 g0 g1 g2 g3 g4 g5 g6 g7 g8 K3 HB3 y0  hme hmy
  have K4 := hide HS4
  obtain ⟨g0, g1, g2, g3, g4, g5, g6, g7, g8⟩ := HS4
  go_wp2_with fail
  refine (c6.out _).mono ?_
  rintro e5 w5 ⟨rfl, hb5⟩
  have HS5 := confKeepS hb5 K4.out
  have HB5 := hide (bstep HB4.out hb5)
  clear hb5 g0 g1 g2 g3 g4 g5 g6 g7 g8 K4 HB4
  go_wp2_with fail
  have hd1 : decide (level < 0) = false := by simp; omega
  have hd2 : decide (1099511627776 < level) = true := by simp; omega
  refine wp_region_still_tail 19 (by kernel_rfl) (by kernel_rfl) ?_
  change wpStill Try.prog _ (World.drew _) (fun a' => wpList _ _ _ _ a' (World.drew _)) _ _
  simp only [List.take_succ_cons, List.take_zero, List.drop_succ_cons, List.drop_zero]
  iterate 7 still_step
  iterate 10 (refine wpStill_skip (by kernel_rfl) ?_)
  iterate 2 still_step
  refine wpStill_nil ?_
  go_wp2_with fail
  refine (lives42_call _).mono ?_
  rintro e6 w6 ⟨rfl, hb6⟩
  have BE := hide (bstep HB5.out.drew hb6)
  clear hb6 HS5 HB5
  go_wp2
  go_ret
  exact ⟨rfl, BE.out⟩
end Go.Proofs.Ytflicgngejnajaa
