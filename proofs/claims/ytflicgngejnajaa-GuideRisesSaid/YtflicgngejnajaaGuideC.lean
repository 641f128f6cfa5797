/- The walk of guide.List. -/
import Derived.Test.YtflicgngejnajaaGuideB
import Derived.Deep.AppendLies
namespace Go.Proofs.Ytflicgngejnajaa
open Go.RowKit
set_option linter.unusedVariables false
set_option linter.unusedSimpArgs false
attribute [local go_sem] setCell_drewN alloc_drewN

/-- The floors ahead of the last one: at most so many, from one on, by steps. -/
def gl : Nat → Int → Int → List Int
  | 0, _, _ => []
  | k + 1, f, s => if 31 ≤ f then [] else f :: gl k (f + s) s
/-- The floors that are tried. -/
def glist (bu dr le st tr : Int) (pi : Bool) (level : Int) : List Int :=
  if pi = true then [1] else gl (clip tr 1 31 - 1).toNat (gfirst bu dr le pi level) (clip st 1 31) ++ [31]

theorem info3 : (Try.prog.info? 3).map (fun i => (i.zero, i.size, i.bytes)) = some (some (.int .i64 0), 1, 8) := by kernel_rfl

/-- A list that the call made: it lies in new memory. -/
def MadeInts (l : List Int) (w : World) (e : Ending) (w' : World) : Prop := ∃ v, e = .returned v ∧ IsInts w' v l ∧ Below w.heap.size w w'

theorem below_alloc_le {B : Nat} {a w : World} (h : Below B a w) (o : Obj) (hB : B ≤ w.heap.size) : Below B a (w.alloc o) := h.alloc hB o

theorem list_pin (bu dr le st tr : Int) (ro sf : Bool) (level : Int) (w : World) :
    Calls Try.prog 9 #[confV bu dr le st tr ro sf true, .int .i64 level] w (MadeInts [1] w) := by
  have c1 := hide (fun W => first_call bu dr le st tr ro sf true level W)
  go_enter Try.func9, Try.ntmps9
  go_wp2_with fail
  go_step3
  go_wp2_with fail
  refine (c1.out _).mono ?_
  rintro e w1 ⟨rfl, hb⟩
  have g7 : w1.cell? ⟨w.heap.size, 7, none⟩ = some (.bool true) := by rw [hb.cell (by simp)]; simp [go_sem]
  have HB := hide ((below_alloc (Below.refl w.heap.size w) _).trans (hb.mono (by simp)))
  clear hb
  go_wp2_with fail
  rw [Exit.noGoto_ret]
  go_ret
  refine ⟨_, rfl, ⟨some ⟨w1.heap.size, 0, none⟩, 1, rfl, fun _ => ⟨w1.heap.size, 0, rfl, by simp, fun i hi => ?_⟩⟩, below_alloc_le HB.out _ HB.out.size⟩
  obtain rfl : i = 0 := by simp at hi; omega
  simp [go_sem, gfirst]

set_option maxHeartbeats 2000000 in
theorem list_go (bu dr le st tr : Int) (ro sf : Bool) (level f0 s : Int) (T : Nat) (L : List Int) (w : World) (hf : Hid (gfirst bu dr le false level = f0)) (hs : Hid (clip st 1 31 = s)) (hT : Hid (clip tr 1 31 = (T : Int) + 1))
    (hL : Hid (gl T f0 s = L)) (hf1 : 1 ≤ f0) (hf2 : f0 ≤ 31) (hs1 : 1 ≤ s) (hs2 : s ≤ 31) (hT1 : T ≤ 30) :
    Calls Try.prog 9 #[confV bu dr le st tr ro sf false, .int .i64 level] w (MadeInts (L ++ [31]) w) := by
  have c1 := hide (fun W => first_call bu dr le st tr ro sf false level W)
  rw [hf.out] at c1
  have c2 := hide (fun W => clip_call tr 1 31 W)
  rw [hT.out] at c2
  have c3 := hide (fun W => clip_call st 1 31 W)
  rw [hs.out] at c3
  obtain ⟨i0, hi, hz0, hz1, hz2⟩ := info_parts info3
  go_enter Try.func9, Try.ntmps9
  go_wp2_with fail
  go_step3
  go_wp2_with fail
  refine (c1.out _).mono ?_
  rintro e w1 ⟨rfl, hb⟩
  have g7 : w1.cell? ⟨w.heap.size, 7, none⟩ = some (.bool false) := by rw [hb.cell (by simp)]; simp [go_sem]
  have g4 : w1.cell? ⟨w.heap.size, 4, none⟩ = some (.int .i64 tr) := by rw [hb.cell (by simp)]; simp [go_sem]
  have g3 : w1.cell? ⟨w.heap.size, 3, none⟩ = some (.int .i64 st) := by rw [hb.cell (by simp)]; simp [go_sem]
  have gs : w.heap.size < w1.heap.size := by have := hb.size; simp at this; omega
  have HB := hide ((below_alloc (Below.refl w.heap.size w) _).trans (hb.mono (by simp)))
  clear hb
  go_wp2_with fail
  go_step3
  go_wp2_with fail
  refine (c2.out _).mono ?_
  rintro e w' ⟨rfl, rfl⟩
  go_wp2_with fail
  go_loopw [5, 6, 18] (fun fl v i wr => ∃ (k : Nat) (f : Int) (out : List Int), k ≤ T ∧ i = .int .i64 k ∧ fl = .int .i64 f ∧ 1 ≤ f ∧ f ≤ 62 ∧ out.length ≤ k ∧ wr.ownsRow w1.heap.size 3 1 v out.length (out.map (Value.int .i64)) ∧ Below w1.heap.size w1 wr ∧ out ++ gl (T - k) f s = L) (fun _ _ i _ => T - (intOf i).toNat)
  case atStart => exact ⟨0, f0, [], Nat.zero_le _, rfl, rfl, hf1, by omega, Nat.le_refl _, World.ownsRow_nil _ _ _ _, Below.refl _ _, by rw [List.nil_append]; exact hL.out⟩
  case round =>
    obtain ⟨k, f, out, hk, rfl, rfl, hfa, hfb, hlen, hown, hbel, hgl⟩ := hrel
    have HGL := hide hgl
    have HBL := hide hbel
    have HS := hide hbel.size
    have q3 : wr.cell? ⟨w.heap.size, 3, none⟩ = some (.int .i64 st) := by rw [hbel.cell gs]; exact g3
    have qs : w.heap.size < wr.heap.size := Nat.lt_of_lt_of_le gs hbel.size
    clear hgl hbel
    by_cases hlt : (k : Int) < (T : Int)
    · by_cases h31 : 31 ≤ f
      · have fin : out = L := by rw [← HGL.out, show T - k = (T - k - 1) + 1 by omega, gl, if_pos h31, List.append_nil]
        have FIN := hide fin
        clear fin
        go_wp2_with (first | (at_builtin; refine wpList_append_own _ rfl _ _ 26 rfl w1.heap.size 3 i0 (.int .i64 0) 1 8 Try.underlying26 hi hz0 hz1 hz2 rfl (by decide) _ _ _ rfl (hown.alloc _) ⟨wr.heap.size, 0, none⟩ 1 1 [.int .i64 31] rfl rfl ?x1 ?x2 ?x3 ?x4 ?x5 ?_))
        try (case x1 => exact World.news_of_block (cs := #[.int .i64 31]) (t := 3) (fr := (0, 0)) (heap_alloc_new wr _))
        case x2 => simp [Value.oneCell']
        case x3 => unfold maxLen; omega
        case x4 => omega
        case x5 => have := HS.out; simp; omega
        intro v' w2 hown2 hgrow _
        have HB2 := hide ((below_alloc_le HBL.out (.cells #[.int .i64 31] 3) HS.out).grown hgrow (by have := HS.out; simp; omega) (fun q hq => (hown.lt q hq).1))
        clear hgrow
        go_wp2_with fail
        rw [Exit.noGoto_ret]
        go_ret
        refine ⟨_, rfl, ?_, HB.out.trans (HB2.out.mono HB.out.size)⟩
        rw [← FIN.out]
        exact IsInts.of_own (by simpa using hown2)
      · have hstep : (out ++ [f]) ++ gl (T - (k + 1)) (f + s) s = L := by
          rw [← HGL.out, show T - k = (T - (k + 1)) + 1 by omega, gl, if_neg h31, List.append_assoc]
          rfl
        have HST := hide hstep
        clear hstep
        go_wp2_with (first | (at_builtin; refine wpList_append_own _ rfl _ _ 26 rfl w1.heap.size 3 i0 (.int .i64 0) 1 8 Try.underlying26 hi hz0 hz1 hz2 rfl (by decide) _ _ _ rfl (hown.alloc _) ⟨wr.heap.size, 0, none⟩ 1 1 [.int .i64 f] rfl rfl ?y1 ?y2 ?y3 ?y4 ?y5 ?_))
        try (case y1 => exact World.news_of_block (cs := #[.int .i64 f]) (t := 3) (fr := (0, 0)) (heap_alloc_new wr _))
        case y2 => simp [Value.oneCell']
        case y3 => unfold maxLen; omega
        case y4 => omega
        case y5 => have := HS.out; simp; omega
        intro v' w2 hown2 hgrow _
        have HB2 := hide ((below_alloc_le HBL.out (.cells #[.int .i64 f] 3) HS.out).grown hgrow (by have := HS.out; simp; omega) (fun q hq => (hown.lt q hq).1))
        have r3 : w2.cell? ⟨w.heap.size, 3, none⟩ = some (.int .i64 st) := by rw [HB2.out.cell gs]; exact g3
        clear hgrow hown
        go_wp2_with fail
        refine (c3.out _).mono ?_
        rintro e w' ⟨rfl, rfl⟩
        go_wp2
        go_roundw
        case rel => exact ⟨k + 1, f + s, out ++ [f], by omega, by go_num, rfl, by omega, by omega, by simp; omega, by simpa using hown2, HB2.out, HST.out⟩
        case measure => simp [intOf]; omega
    · have fin : out = L := by rw [← HGL.out, show T - k = 0 by omega, gl, List.append_nil]
      have FIN := hide fin
      clear fin
      go_wp2_with (first | (at_builtin; refine wpList_append_own _ rfl _ _ 26 rfl w1.heap.size 3 i0 (.int .i64 0) 1 8 Try.underlying26 hi hz0 hz1 hz2 rfl (by decide) _ _ _ rfl (hown.alloc _) ⟨wr.heap.size, 0, none⟩ 1 1 [.int .i64 31] rfl rfl ?z1 ?z2 ?z3 ?z4 ?z5 ?_))
      try (case z1 => exact World.news_of_block (cs := #[.int .i64 31]) (t := 3) (fr := (0, 0)) (heap_alloc_new wr _))
      case z2 => simp [Value.oneCell']
      case z3 => unfold maxLen; omega
      case z4 => omega
      case z5 => have := HS.out; simp; omega
      intro v' w2 hown2 hgrow _
      have HB2 := hide ((below_alloc_le HBL.out (.cells #[.int .i64 31] 3) HS.out).grown hgrow (by have := HS.out; simp; omega) (fun q hq => (hown.lt q hq).1))
      clear hgrow
      go_wp2_with fail
      rw [Exit.noGoto_ret]
      go_ret
      refine ⟨_, rfl, ?_, HB.out.trans (HB2.out.mono HB.out.size)⟩
      rw [← FIN.out]
      exact IsInts.of_own (by simpa using hown2)

theorem list_call (bu dr le st tr : Int) (ro sf pi : Bool) (level : Int) (w : World) :
    Calls Try.prog 9 #[confV bu dr le st tr ro sf pi, .int .i64 level] w (MadeInts (glist bu dr le st tr pi level) w) := by
  unfold glist
  cases pi
  · rw [if_neg (by decide)]
    have h1 := gfirst_bd bu dr le false level
    have h2 := clip_bd (n := st) (lo := 1) (hi := 31) (by omega)
    have h3 := clip_bd (n := tr) (lo := 1) (hi := 31) (by omega)
    exact list_go bu dr le st tr ro sf level _ _ (clip tr 1 31 - 1).toNat _ w rfl rfl (show _ = _ by omega) rfl h1.1 h1.2 h2.1 h2.2 (by omega)
  · rw [if_pos rfl]
    exact list_pin bu dr le st tr ro sf level w
end Go.Proofs.Ytflicgngejnajaa
