/- The walk of the reference's List. -/
import Derived.Test.YtflicgngejnajaaGuideC
namespace Go.Proofs.Ytflicgngejnajaa
open Go.RowKit
set_option linter.unusedVariables false
set_option linter.unusedSimpArgs false
attribute [local go_sem] setCell_drewN alloc_drewN

theorem refList_pin (bu dr le st tr : Int) (ro sf : Bool) (level : Int) (w : World) :
    Calls Try.prog 10 #[confV bu dr le st tr ro sf true, .int .i64 level] w (MadeInts [1] w) := by
  go_enter Try.func10, Try.ntmps10
  go_wp2_with fail
  go_ret
  refine ⟨_, rfl, ⟨some ⟨w.heap.size + 1, 0, none⟩, 1, rfl, fun _ => ⟨w.heap.size + 1, 0, rfl, by simp, fun i hi => ?_⟩⟩, below_alloc (below_alloc (Below.refl _ _) _) _⟩
  obtain rfl : i = 0 := by simp at hi; omega
  simp [go_sem]

set_option maxHeartbeats 2000000 in
theorem refList_go (bu dr le st tr : Int) (ro sf : Bool) (level f0 s : Int) (T : Nat) (L : List Int) (w : World) (hf : Hid (gfirst bu dr le false level = f0)) (hs : Hid (clip st 1 31 = s)) (hT : Hid (clip tr 1 31 = (T : Int) + 1))
    (hL : Hid (gl T f0 s = L)) (hf1 : 1 ≤ f0) (hf2 : f0 ≤ 31) (hs1 : 1 ≤ s) (hs2 : s ≤ 31) (hT1 : T ≤ 30) :
    Calls Try.prog 10 #[confV bu dr le st tr ro sf false, .int .i64 level] w (MadeInts (L ++ [31]) w) := by
  have c1 := hide (fun W => refFirst_call bu dr le st tr ro sf false level W)
  rw [hf.out] at c1
  have c2 := hide (fun W => refClip_call tr 1 31 W)
  rw [hT.out] at c2
  have c3 := hide (fun W => refClip_call st 1 31 W)
  rw [hs.out] at c3
  obtain ⟨i0, hi, hz0, hz1, hz2⟩ := info_parts info3
  go_enter Try.func10, Try.ntmps10
  go_wp2_with fail
  refine (c1.out _).mono ?_
  rintro e w1 ⟨rfl, hb⟩
  have g4 : w1.cell? ⟨w.heap.size, 4, none⟩ = some (.int .i64 tr) := by rw [hb.cell (by simp)]; simp [go_sem]
  have g3 : w1.cell? ⟨w.heap.size, 3, none⟩ = some (.int .i64 st) := by rw [hb.cell (by simp)]; simp [go_sem]
  have gs : w.heap.size < w1.heap.size := by have := hb.size; simp at this; omega
  have HB := hide ((below_alloc (Below.refl w.heap.size w) _).trans (hb.mono (by simp)))
  clear hb
  go_wp2_with fail
  go_loopw [5, 6] (fun v fl wr => ∃ (k : Nat) (f : Int) (out : List Int), k ≤ T ∧ fl = .int .i64 f ∧ 1 ≤ f ∧ f ≤ 62 ∧ out.length = k ∧ wr.ownsRow w1.heap.size 3 1 v k (out.map (Value.int .i64)) ∧ Below w1.heap.size w1 wr ∧ out ++ gl (T - k) f s = L) (fun _ fl _ => (62 - intOf fl).toNat)
  case atStart => exact ⟨0, f0, [], Nat.zero_le _, rfl, hf1, by omega, rfl, World.ownsRow_nil _ _ _ _, Below.refl _ _, by rw [List.nil_append]; exact hL.out⟩
  case round =>
    obtain ⟨k, f, out, hk, rfl, hfa, hfb, hlen, hown, hbel, hgl⟩ := hrel
    have HGL := hide hgl
    have HBL := hide hbel
    have HS := hide hbel.size
    have HLEN := hide hlen
    have q3 : wr.cell? ⟨w.heap.size, 3, none⟩ = some (.int .i64 st) := by rw [hbel.cell gs]; exact g3
    have q4 : wr.cell? ⟨w.heap.size, 4, none⟩ = some (.int .i64 tr) := by rw [hbel.cell gs]; exact g4
    have qs : w.heap.size < wr.heap.size := Nat.lt_of_lt_of_le gs hbel.size
    clear hgl hbel hlen
    obtain ⟨a0, cap0, hav⟩ : ∃ a0 cap0, u5 = .slice a0 k cap0 := by
      rcases hown.2 with ⟨h, h0⟩ | ⟨g, cap, _, h, _⟩
      · exact ⟨none, 0, by rw [h, h0]⟩
      · exact ⟨_, _, h⟩
    rw [hav] at hown ⊢
    clear hav
    by_cases h31 : f < 31
    · go_wp2_with fail
      refine (c2.out _).mono ?_
      rintro e w' ⟨rfl, rfl⟩
      by_cases hlt : (k : Int) < (T : Int)
      · have hstep : (out ++ [f]) ++ gl (T - (k + 1)) (f + s) s = L := by
          rw [← HGL.out, show T - k = (T - (k + 1)) + 1 by omega, gl, if_neg (by omega), List.append_assoc]
          rfl
        have HST := hide hstep
        clear hstep
        go_wp2_with (first | (at_builtin; refine wpList_append_own _ rfl _ _ 26 rfl w1.heap.size 3 i0 (.int .i64 0) 1 8 Try.underlying26 hi hz0 hz1 hz2 rfl (by decide) _ _ _ rfl (hown.alloc _) ⟨wr.heap.size, 0, none⟩ 1 1 [.int .i64 f] rfl rfl ?y1 ?y2 ?y3 ?y4 ?y5 ?_))
        try (case y1 => exact World.news_of_block (cs := #[.int .i64 f]) (t := 3) (fr := (0, 0)) (heap_alloc_new wr _))
        case y2 => simp [Value.oneCell']
        case y3 => unfold maxLen; omega
        case y4 => omega
        case y5 => have := HS.out; simp; omega
        intro v' w2 hown2 hgrow _
        have HB2 := hide ((below_alloc_le HBL.out (.cells #[.int .i64 f] 3) HS.out).grown hgrow (by have := HS.out; simp; omega) (fun q hq => (hown.lt q hq).1))
        clear hgrow
        have r3 : w2.cell? ⟨w.heap.size, 3, none⟩ = some (.int .i64 st) := by rw [HB2.out.cell gs]; exact g3
        clear hown
        go_wp2_with fail
        refine (c3.out _).mono ?_
        rintro e w' ⟨rfl, rfl⟩
        go_wp2
        go_roundw
        case rel => exact ⟨k + 1, f + s, out ++ [f], by omega, rfl, by omega, by omega, by have := HLEN.out; simp; omega, by simpa using hown2, HB2.out, HST.out⟩
        case measure => simp [intOf]; omega
      · have fin : out = L := by rw [← HGL.out, show T - k = 0 by omega, gl, List.append_nil]
        have FIN := hide fin
        clear fin
        have hown := (HLEN.out ▸ hown : wr.ownsRow w1.heap.size 3 1 (.slice a0 k cap0) k (out.map (Value.int .i64)))
        go_wp2_with (first | (at_builtin; refine wpList_append_own _ rfl _ _ 26 rfl w1.heap.size 3 i0 (.int .i64 0) 1 8 Try.underlying26 hi hz0 hz1 hz2 rfl (by decide) _ _ _ rfl (hown.alloc _) ⟨wr.heap.size, 0, none⟩ 1 1 [.int .i64 31] rfl rfl ?z1 ?z2 ?z3 ?z4 ?z5 ?_))
        try (case z1 => exact World.news_of_block (cs := #[.int .i64 31]) (t := 3) (fr := (0, 0)) (heap_alloc_new wr _))
        case z2 => simp [Value.oneCell']
        case z3 => unfold maxLen; omega
        case z4 => omega
        case z5 => have := HS.out; simp; omega
        intro v' w2 hown2 hgrow _
        have HB2 := hide ((below_alloc_le HBL.out (.cells #[.int .i64 31] 3) HS.out).grown hgrow (by have := HS.out; simp; omega) (fun q hq => (hown.lt q hq).1))
        clear hgrow
        go_wp2_with fail
        go_ret
        refine ⟨_, rfl, ?_, HB.out.trans (HB2.out.mono HB.out.size)⟩
        rw [← FIN.out]
        exact IsInts.of_own (by simpa [HLEN.out] using hown2)
    · have fin : out = L := by
        rw [← HGL.out]
        cases hq : T - k with
        | zero => rw [gl, List.append_nil]
        | succ q => rw [gl, if_pos (by omega), List.append_nil]
      have FIN := hide fin
      clear fin
      go_wp2_with (first | (at_builtin; refine wpList_append_own _ rfl _ _ 26 rfl w1.heap.size 3 i0 (.int .i64 0) 1 8 Try.underlying26 hi hz0 hz1 hz2 rfl (by decide) _ _ _ rfl (hown.alloc _) ⟨wr.heap.size, 0, none⟩ 1 1 [.int .i64 31] rfl rfl ?x1 ?x2 ?x3 ?x4 ?x5 ?_))
      try (case x1 => exact World.news_of_block (cs := #[.int .i64 31]) (t := 3) (fr := (0, 0)) (heap_alloc_new wr _))
      case x2 => simp [Value.oneCell']
      case x3 => unfold maxLen; omega
      case x4 => omega
      case x5 => have := HS.out; simp; omega
      intro v' w2 hown2 hgrow _
      have HB2 := hide ((below_alloc_le HBL.out (.cells #[.int .i64 31] 3) HS.out).grown hgrow (by have := HS.out; simp; omega) (fun q hq => (hown.lt q hq).1))
      clear hgrow
      go_wp2_with fail
      go_ret
      refine ⟨_, rfl, ?_, HB.out.trans (HB2.out.mono HB.out.size)⟩
      rw [← FIN.out]
      exact IsInts.of_own (by simpa [HLEN.out] using hown2)

theorem refList_call (bu dr le st tr : Int) (ro sf pi : Bool) (level : Int) (w : World) :
    Calls Try.prog 10 #[confV bu dr le st tr ro sf pi, .int .i64 level] w (MadeInts (glist bu dr le st tr pi level) w) := by
  unfold glist
  cases pi
  · rw [if_neg (by decide)]
    have h1 := gfirst_bd bu dr le false level
    have h2 := clip_bd (n := st) (lo := 1) (hi := 31) (by omega)
    have h3 := clip_bd (n := tr) (lo := 1) (hi := 31) (by omega)
    exact refList_go bu dr le st tr ro sf level _ _ (clip tr 1 31 - 1).toNat _ w rfl rfl (show _ = _ by omega) rfl h1.1 h1.2 h2.1 h2.2 (by omega)
  · rw [if_pos rfl]
    exact refList_pin bu dr le st tr ro sf level w
end Go.Proofs.Ytflicgngejnajaa
