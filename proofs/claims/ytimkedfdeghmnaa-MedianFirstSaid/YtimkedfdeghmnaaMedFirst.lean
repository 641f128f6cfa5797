/- The walk of the law MedianFirst. -/
import Derived.Test.YtimkedfdeghmnaaMedSame
import Derived.Deep.RegionHeld3
import Derived.Deep.AppendLies
import Derived.Deep.RegionWith
namespace Go.Proofs.Ytimkedfdeghmnaa
open Go.RowKit
attribute [local go_sem] setCell_drewN alloc_drewN run_eq_vec

theorem info24 : (Try.prog.info? 24).map (fun i => (i.zero, i.size, i.bytes)) = some (some (.agg #[.int .i64 0, .int .i64 0]), 2, 16) := by kernel_rfl

theorem wpStill_skip {P : Program} {ops : Array Oper} {w : World} {Q : Act → Prop} {a : Act} {o : Oper} {rest : List Oper} (hw : Region.wanted o (yielded ops a.tmps) = false) (h : wpStill P ops w Q rest (a.put o.dst undef)) : wpStill P ops w Q (o :: rest) a :=
  wpStill_step fun K hK => by rw [if_neg (by rw [hw]; exact Bool.false_ne_true)]; exact hK _ h

attribute [local irreducible] wpStill

theorem below_alloc_le {B : Nat} {a w : World} (h : Below B a w) (o : Obj) (hB : B ≤ w.heap.size) : Below B a (w.alloc o) := h.alloc hB o

set_option maxHeartbeats 1000000 in
theorem first_mid (b off : Nat) (n cap : Nat) (x y vx vy lx ly : Int) (r : Nat) (w : World) (hn : n ≤ 500) (hr : r ≤ 31) (hx : Hid (bits .and .i64 x 31 = (r : Int))) (hb : b < w.heap.size)
    (hcol : 0 < (n : Int) % (1 + (r : Int))) (hn1 : 0 < (n : Int))
    (h0 : w.cell? ⟨b, off + (n - 1) * 2, none⟩ = some (.int .i64 lx)) (h1 : w.cell? ⟨b, off + (n - 1) * 2 + 1, none⟩ = some (.int .i64 ly))
    (c2 : Hid (∀ (W0 : World) (base : Nat) (v : Value), W0.ownsRow base 24 2 v n (vcells vx vy n) → ∀ W, Below W0.heap.size W0 W → Calls Try.prog 10 #[v, .int .i64 (1 + (r : Int)), .int .i64 y] W fun e w' => e = .returned (vecV vx vy) ∧ Below W.heap.size W w'))
    (hmid : (n : Int) % (1 + (r : Int)) < (r : Int))
    (c1 : Hid (∀ W, Below w.heap.size w W → Calls Try.prog 10 #[.slice (some ⟨b, off, none⟩) n cap, .int .i64 (1 + (r : Int)), .int .i64 ((n : Int) / (1 + (r : Int)))] W fun e w' => e = .returned (vecV lx ly) ∧ Below W.heap.size W w')) :
    Calls Try.prog 4 #[.slice (some ⟨b, off, none⟩) n cap, vecV x y, vecV vx vy] w fun e w' => e = .returned (.bool true) ∧ Below w.heap.size w w' := by
  have hb1 : b < w.heap.size + 1 := by omega
  have hb2 : b < w.heap.size + 1 + 1 := by omega
  have hd0 : 0 ≤ (n : Int) / (1 + (r : Int)) := Int.ediv_nonneg (by omega) (by omega)
  have hd1 : (n : Int) / (1 + (r : Int)) ≤ 500 := Int.le_trans (Int.ediv_le_self _ (by omega)) (by omega)
  have hm0 : ((1 + (r : Int)) == 0) = false := by rw [beq_eq_false_iff_ne]; omega
  have hm1 : 0 < 1 + (r : Int) := by omega
  have hx1 := hx.out
  have hn5 : decide (500 < (n : Int)) = false := by simp; omega
  go_enter Try.func4, Try.ntmps4
  go_wp2_with fail
  clear hx1
  have HB0 := hide (below_alloc (below_alloc (below_alloc (Below.refl w.heap.size w) (.cells #[.int .i64 x, .int .i64 y] 24)) (.cells #[.int .i64 vx, .int .i64 vy] 24)) (.cells #[.int .i64 lx, .int .i64 ly] 24))
  obtain ⟨n0, n1, n2⟩ := three_new w x y vx vy lx ly _ rfl
  generalize ((w.alloc (.cells #[.int .i64 x, .int .i64 y] 24)).alloc (.cells #[.int .i64 vx, .int .i64 vy] 24)).alloc (.cells #[.int .i64 lx, .int .i64 ly] 24) = W0 at HB0 n0 n1 n2 ⊢
  have k0 := hide n0
  have k1 := hide n1
  have k2 := hide n2
  obtain ⟨la, lb, lc, ld, le⟩ := n2
  clear n0 n1 lc ld
  go_region_held3 (fun w' => w'.cell? ⟨w.heap.size + 1 + 1, 0, none⟩ = some (.int .i64 lx) ∧ w'.cell? ⟨w.heap.size + 1 + 1, 1, none⟩ = some (.int .i64 ly))
    (first | go_keep | exact ⟨by rw [hb.cell le]; exact la, by rw [hb.cell le]; exact lb⟩)
    (first | (go_at_call 10; refine (c1.out _ (by exact HB0.out.drew)).mono ?_; rintro e w1 ⟨rfl, hb⟩))
  have hb' : Below W0.heap.size W0 w1 := (Below.refl W0.heap.size W0).drew.trans hb
  clear hb
  have HB1 := hide (HB0.out.trans (hb'.mono HB0.out.size))
  have j0 := hide (k0.out.below hb' k0.out.2.2.2.2)
  have j1 := hide (k1.out.below hb' k1.out.2.2.2.2)
  clear HB0 k0 k1 k2 la lb le hb' W0
  obtain ⟨i0, hi, hz0, hz1, hz2⟩ := info_parts info24
  go_wp2_with fail
  go_loopw [10, 11] (fun v i wr => ∃ k : Nat, k ≤ n ∧ i = .int .i64 k ∧ wr.ownsRow w1.heap.size 24 2 v k (vcells vx vy k) ∧ Below w1.heap.size w1 wr) (fun _ i _ => n - (intOf i).toNat)
  case atStart => exact ⟨0, Nat.zero_le _, rfl, World.ownsRow_nil _ _ _ _, Below.refl _ _⟩
  case round =>
    obtain ⟨k, hk, rfl, hown, hbel⟩ := hrel
    by_cases hlt : k < n
    · obtain ⟨va, vb, vc, vd, ve⟩ := j1.out.below hbel j1.out.2.2.2.2
      have HBL := hide hbel
      have HS := hide hbel.size
      clear hbel vc vd
      go_wp2_with (first | (at_builtin; refine wpList_append_own _ rfl _ _ 22 rfl w1.heap.size 24 i0 (.agg #[.int .i64 0, .int .i64 0]) 2 16 Try.underlying22 hi hz0 hz1 hz2 rfl (by decide) _ _ _ rfl (hown.alloc _) ⟨wr.heap.size, 0, none⟩ 1 1 [.int .i64 vx, .int .i64 vy] rfl rfl ?c1 ?c2 ?c3 ?c4 ?c5 ?_))
      case c1 => exact World.news_of_block (cs := #[.int .i64 vx, .int .i64 vy]) (t := 24) (fr := (0, 0)) (heap_alloc_new wr _)
      case c2 => simp [Value.oneCell']
      case c3 => unfold maxLen; omega
      case c4 => omega
      case c5 => have := HS.out; simp; omega
      intro v' w2 hown2 hgrow _
      have HB2 := hide ((below_alloc_le HBL.out (.cells #[.int .i64 vx, .int .i64 vy] 24) HS.out).grown hgrow (by have := HS.out; simp; omega) (fun q hq => (hown.lt q hq).1))
      clear hgrow hown
      go_wp2
      go_roundw
      case rel => exact ⟨k + 1, by omega, by go_num, hown2, HB2.out⟩
      case measure => simp [intOf]; omega
    · obtain rfl : n = k := by omega
      have c3 := hide (c2.out wr _ _ hown)
      have q0 : ((n : Int) % (1 + (r : Int)) == 0) = false := by rw [beq_eq_false_iff_ne]; omega
      have q1 : ((n : Int) % (1 + (r : Int)) == (r : Int)) = false := by rw [beq_eq_false_iff_ne]; omega
      obtain ⟨va, vb, vc, vd, ve⟩ := j1.out.below hbel j1.out.2.2.2.2
      obtain ⟨ta, tb, tc, td, te⟩ := j0.out.below hbel j0.out.2.2.2.2
      have HBL := hide (HB1.out.trans (hbel.mono HB1.out.size))
      clear hown hbel vc vd tc td ta
      go_wp2_with fail
      have wz : IntKind.i64.wrap (1 + (r : Int) - 1) = (r : Int) := by rw [IntKind.wrap_i64]; omega
      go_region_held3 (fun w' => w'.cell? ⟨w.heap.size, 1, none⟩ = some (.int .i64 y) ∧ w'.cell? ⟨w.heap.size + 1, 0, none⟩ = some (.int .i64 vx) ∧ w'.cell? ⟨w.heap.size + 1, 1, none⟩ = some (.int .i64 vy))
        (first | go_keep | exact ⟨by rw [hb.cell te]; exact tb, by rw [hb.cell ve]; exact va, by rw [hb.cell ve]; exact vb⟩ | exact ⟨by rw [hc.cell (Nat.lt_of_lt_of_le te hb.size), hb.cell te]; exact tb, by rw [hc.cell (Nat.lt_of_lt_of_le ve hb.size), hb.cell ve]; exact va, by rw [hc.cell (Nat.lt_of_lt_of_le ve hb.size), hb.cell ve]; exact vb⟩)
        (first | (go_at_call 10; refine (c3.out _ ?_).mono ?_; exact (Below.refl _ _).drew; rintro e w2 ⟨rfl, hb⟩) | (go_at_call 9; refine (lives19_call _).mono ?_; rintro e w3 ⟨rfl, hc⟩))
      have B2 := hide (((HBL.out.drew).trans (hb.mono HBL.out.size)).trans (hc.mono (Nat.le_trans HBL.out.size hb.size)))
      clear hb hc wz
      go_wp2
      go_ret
      exact ⟨rfl, B2.out⟩

set_option maxHeartbeats 1000000 in
theorem first_last (b off : Nat) (n cap : Nat) (x y vx vy lx ly : Int) (r : Nat) (w : World) (hn : n ≤ 500) (hr : r ≤ 31) (hx : Hid (bits .and .i64 x 31 = (r : Int))) (hb : b < w.heap.size)
    (hcol : 0 < (n : Int) % (1 + (r : Int))) (hn1 : 0 < (n : Int))
    (h0 : w.cell? ⟨b, off + (n - 1) * 2, none⟩ = some (.int .i64 lx)) (h1 : w.cell? ⟨b, off + (n - 1) * 2 + 1, none⟩ = some (.int .i64 ly))
    (hmid : (n : Int) % (1 + (r : Int)) = (r : Int))
    (c1 : Hid (∀ W, Below w.heap.size w W → Calls Try.prog 10 #[.slice (some ⟨b, off, none⟩) n cap, .int .i64 (1 + (r : Int)), .int .i64 ((n : Int) / (1 + (r : Int)))] W fun e w' => e = .returned (vecV lx ly) ∧ Below W.heap.size W w')) :
    Calls Try.prog 4 #[.slice (some ⟨b, off, none⟩) n cap, vecV x y, vecV vx vy] w fun e w' => e = .returned (.bool true) ∧ Below w.heap.size w w' := by
  have hb1 : b < w.heap.size + 1 := by omega
  have hb2 : b < w.heap.size + 1 + 1 := by omega
  have hd0 : 0 ≤ (n : Int) / (1 + (r : Int)) := Int.ediv_nonneg (by omega) (by omega)
  have hd1 : (n : Int) / (1 + (r : Int)) ≤ 500 := Int.le_trans (Int.ediv_le_self _ (by omega)) (by omega)
  have hm0 : ((1 + (r : Int)) == 0) = false := by rw [beq_eq_false_iff_ne]; omega
  have hm1 : 0 < 1 + (r : Int) := by omega
  have Hmid := hide hmid
  have hcr : 0 < (r : Int) := by omega
  clear hmid
  have hx1 := hx.out
  have hn5 : decide (500 < (n : Int)) = false := by simp; omega
  go_enter Try.func4, Try.ntmps4
  go_wp2_with fail
  clear hx1
  have HB0 := hide (below_alloc (below_alloc (below_alloc (Below.refl w.heap.size w) (.cells #[.int .i64 x, .int .i64 y] 24)) (.cells #[.int .i64 vx, .int .i64 vy] 24)) (.cells #[.int .i64 lx, .int .i64 ly] 24))
  obtain ⟨n0, n1, n2⟩ := three_new w x y vx vy lx ly _ rfl
  generalize ((w.alloc (.cells #[.int .i64 x, .int .i64 y] 24)).alloc (.cells #[.int .i64 vx, .int .i64 vy] 24)).alloc (.cells #[.int .i64 lx, .int .i64 ly] 24) = W0 at HB0 n0 n1 n2 ⊢
  have k0 := hide n0
  have k1 := hide n1
  have k2 := hide n2
  obtain ⟨la, lb, lc, ld, le⟩ := n2
  clear n0 n1 lc ld
  go_region_held3 (fun w' => w'.cell? ⟨w.heap.size + 1 + 1, 0, none⟩ = some (.int .i64 lx) ∧ w'.cell? ⟨w.heap.size + 1 + 1, 1, none⟩ = some (.int .i64 ly))
    (first | go_keep | exact ⟨by rw [hb.cell le]; exact la, by rw [hb.cell le]; exact lb⟩)
    (first | (go_at_call 10; refine (c1.out _ (by exact HB0.out.drew)).mono ?_; rintro e w1 ⟨rfl, hb⟩))
  have hb' : Below W0.heap.size W0 w1 := (Below.refl W0.heap.size W0).drew.trans hb
  clear hb
  have HB1 := hide (HB0.out.trans (hb'.mono HB0.out.size))
  have j0 := hide (k0.out.below hb' k0.out.2.2.2.2)
  have j1 := hide (k1.out.below hb' k1.out.2.2.2.2)
  clear HB0 k0 k1 k2 la lb le hb' W0
  obtain ⟨i0, hi, hz0, hz1, hz2⟩ := info_parts info24
  go_wp2_with fail
  go_loopw [10, 11] (fun v i wr => ∃ k : Nat, k ≤ n ∧ i = .int .i64 k ∧ wr.ownsRow w1.heap.size 24 2 v k (vcells vx vy k) ∧ Below w1.heap.size w1 wr) (fun _ i _ => n - (intOf i).toNat)
  case atStart => exact ⟨0, Nat.zero_le _, rfl, World.ownsRow_nil _ _ _ _, Below.refl _ _⟩
  case round =>
    obtain ⟨k, hk, rfl, hown, hbel⟩ := hrel
    by_cases hlt : k < n
    · obtain ⟨va, vb, vc, vd, ve⟩ := j1.out.below hbel j1.out.2.2.2.2
      have HBL := hide hbel
      have HS := hide hbel.size
      clear hbel vc vd
      go_wp2_with (first | (at_builtin; refine wpList_append_own _ rfl _ _ 22 rfl w1.heap.size 24 i0 (.agg #[.int .i64 0, .int .i64 0]) 2 16 Try.underlying22 hi hz0 hz1 hz2 rfl (by decide) _ _ _ rfl (hown.alloc _) ⟨wr.heap.size, 0, none⟩ 1 1 [.int .i64 vx, .int .i64 vy] rfl rfl ?c1 ?c2 ?c3 ?c4 ?c5 ?_))
      case c1 => exact World.news_of_block (cs := #[.int .i64 vx, .int .i64 vy]) (t := 24) (fr := (0, 0)) (heap_alloc_new wr _)
      case c2 => simp [Value.oneCell']
      case c3 => unfold maxLen; omega
      case c4 => omega
      case c5 => have := HS.out; simp; omega
      intro v' w2 hown2 hgrow _
      have HB2 := hide ((below_alloc_le HBL.out (.cells #[.int .i64 vx, .int .i64 vy] 24) HS.out).grown hgrow (by have := HS.out; simp; omega) (fun q hq => (hown.lt q hq).1))
      clear hgrow hown
      go_wp2
      go_roundw
      case rel => exact ⟨k + 1, by omega, by go_num, hown2, HB2.out⟩
      case measure => simp [intOf]; omega
    · obtain rfl : n = k := by omega
      have q0 : ((n : Int) % (1 + (r : Int)) == 0) = false := by rw [beq_eq_false_iff_ne]; omega
      have q1 : ((n : Int) % (1 + (r : Int)) == (r : Int)) = true := by rw [beq_iff_eq]; exact Hmid.out
      obtain ⟨va, vb, vc, vd, ve⟩ := j1.out.below hbel j1.out.2.2.2.2
      obtain ⟨ta, tb, tc, td, te⟩ := j0.out.below hbel j0.out.2.2.2.2
      have HBL := hide (HB1.out.trans (hbel.mono HB1.out.size))
      clear hown hbel vc vd tc td ta
      go_wp2_with fail
      have wz : IntKind.i64.wrap (1 + (r : Int) - 1) = (r : Int) := by rw [IntKind.wrap_i64]; omega
      refine wp_region_still_tail 18 (by kernel_rfl) (by kernel_rfl) ?_
      change wpStill Try.prog _ (World.drew _) (fun a' => wpList _ _ _ _ a' (World.drew _)) _ _
      simp only [List.take_succ_cons, List.take_zero, List.drop_succ_cons, List.drop_zero]
      iterate 9 still_step
      iterate 7 (refine wpStill_skip (by kernel_rfl) ?_)
      iterate 2 still_step
      refine wpStill_nil ?_
      go_wp2_with fail
      refine (lives19_call _).mono ?_
      rintro e w3 ⟨rfl, hc⟩
      have B2 := hide ((HBL.out.drew).trans (hc.mono HBL.out.size))
      clear hc wz
      go_wp2
      go_ret
      exact ⟨rfl, B2.out⟩

set_option maxHeartbeats 1000000 in
theorem first_edge (a : Option Addr) (n cap : Nat) (x y vx vy : Int) (r : Nat) (w : World) (hn : n ≤ 500) (hr : r ≤ 31) (hx : Hid (bits .and .i64 x 31 = (r : Int)))
    (hcol : (n : Int) % (1 + (r : Int)) ≤ 0)
    (c1 : Hid (∀ W, Below w.heap.size w W → Calls Try.prog 10 #[.slice a n cap, .int .i64 (1 + (r : Int)), .int .i64 ((n : Int) / (1 + (r : Int)))] W fun e w' => e = .returned (vecV 0 0) ∧ Below W.heap.size W w')) :
    Calls Try.prog 4 #[.slice a n cap, vecV x y, vecV vx vy] w fun e w' => e = .returned (.bool true) ∧ Below w.heap.size w w' := by
  have hd0 : 0 ≤ (n : Int) / (1 + (r : Int)) := Int.ediv_nonneg (by omega) (by omega)
  have hd1 : (n : Int) / (1 + (r : Int)) ≤ 500 := Int.le_trans (Int.ediv_le_self _ (by omega)) (by omega)
  have hm0 : ((1 + (r : Int)) == 0) = false := by rw [beq_eq_false_iff_ne]; omega
  have hm1 : 0 < 1 + (r : Int) := by omega
  have hr0 : 0 ≤ (n : Int) % (1 + (r : Int)) := Int.emod_nonneg _ (by omega)
  have hx1 := hx.out
  have hn5 : decide (500 < (n : Int)) = false := by simp; omega
  go_enter Try.func4, Try.ntmps4
  go_wp2_with fail
  clear hx1
  have HB0 := hide (below_alloc (below_alloc (below_alloc (Below.refl w.heap.size w) (.cells #[.int .i64 x, .int .i64 y] 24)) (.cells #[.int .i64 vx, .int .i64 vy] 24)) (.cells #[.int .i64 0, .int .i64 0] 24))
  obtain ⟨n0, n1, n2⟩ := three_new w x y vx vy 0 0 _ rfl
  generalize ((w.alloc (.cells #[.int .i64 x, .int .i64 y] 24)).alloc (.cells #[.int .i64 vx, .int .i64 vy] 24)).alloc (.cells #[.int .i64 0, .int .i64 0] 24) = W0 at HB0 n0 n1 n2 ⊢
  have k0 := hide n0
  have k1 := hide n1
  have k2 := hide n2
  obtain ⟨la, lb, lc, ld, le⟩ := n2
  clear n0 n1 lc ld
  go_region_held3 (fun w' => w'.cell? ⟨w.heap.size + 1 + 1, 0, none⟩ = some (.int .i64 0) ∧ w'.cell? ⟨w.heap.size + 1 + 1, 1, none⟩ = some (.int .i64 0))
    (first | go_keep | exact ⟨by rw [hb.cell le]; exact la, by rw [hb.cell le]; exact lb⟩)
    (first | (go_at_call 10; refine (c1.out _ (by exact HB0.out.drew)).mono ?_; rintro e w1 ⟨rfl, hb⟩))
  have hb' : Below W0.heap.size W0 w1 := (Below.refl W0.heap.size W0).drew.trans hb
  clear hb
  have HB1 := hide (HB0.out.trans (hb'.mono HB0.out.size))
  have j0 := hide (k0.out.below hb' k0.out.2.2.2.2)
  have j1 := hide (k1.out.below hb' k1.out.2.2.2.2)
  clear HB0 k0 k1 k2 la lb le hb' W0
  obtain ⟨i0, hi, hz0, hz1, hz2⟩ := info_parts info24
  go_wp2_with fail
  go_loopw [10, 11] (fun v i wr => ∃ k : Nat, k ≤ n ∧ i = .int .i64 k ∧ wr.ownsRow w1.heap.size 24 2 v k (vcells vx vy k) ∧ Below w1.heap.size w1 wr) (fun _ i _ => n - (intOf i).toNat)
  case atStart => exact ⟨0, Nat.zero_le _, rfl, World.ownsRow_nil _ _ _ _, Below.refl _ _⟩
  case round =>
    obtain ⟨k, hk, rfl, hown, hbel⟩ := hrel
    by_cases hlt : k < n
    · obtain ⟨va, vb, vc, vd, ve⟩ := j1.out.below hbel j1.out.2.2.2.2
      have HBL := hide hbel
      have HS := hide hbel.size
      clear hbel vc vd
      go_wp2_with (first | (at_builtin; refine wpList_append_own _ rfl _ _ 22 rfl w1.heap.size 24 i0 (.agg #[.int .i64 0, .int .i64 0]) 2 16 Try.underlying22 hi hz0 hz1 hz2 rfl (by decide) _ _ _ rfl (hown.alloc _) ⟨wr.heap.size, 0, none⟩ 1 1 [.int .i64 vx, .int .i64 vy] rfl rfl ?c1 ?c2 ?c3 ?c4 ?c5 ?_))
      case c1 => exact World.news_of_block (cs := #[.int .i64 vx, .int .i64 vy]) (t := 24) (fr := (0, 0)) (heap_alloc_new wr _)
      case c2 => simp [Value.oneCell']
      case c3 => unfold maxLen; omega
      case c4 => omega
      case c5 => have := HS.out; simp; omega
      intro v' w2 hown2 hgrow _
      have HB2 := hide ((below_alloc_le HBL.out (.cells #[.int .i64 vx, .int .i64 vy] 24) HS.out).grown hgrow (by have := HS.out; simp; omega) (fun q hq => (hown.lt q hq).1))
      clear hgrow hown
      go_wp2
      go_roundw
      case rel => exact ⟨k + 1, by omega, by go_num, hown2, HB2.out⟩
      case measure => simp [intOf]; omega
    · obtain rfl : n = k := by omega
      have q0 : ((n : Int) % (1 + (r : Int)) == 0) = true := by rw [beq_iff_eq]; omega
      obtain ⟨va, vb, vc, vd, ve⟩ := j1.out.below hbel j1.out.2.2.2.2
      obtain ⟨ta, tb, tc, td, te⟩ := j0.out.below hbel j0.out.2.2.2.2
      have HBL := hide (HB1.out.trans (hbel.mono HB1.out.size))
      clear hown hbel vc vd tc td ta
      go_wp2_with fail
      have wz : IntKind.i64.wrap (1 + (r : Int) - 1) = (r : Int) := by rw [IntKind.wrap_i64]; omega
      refine wp_region_still_tail 18 (by kernel_rfl) (by kernel_rfl) ?_
      change wpStill Try.prog _ (World.drew _) (fun a' => wpList _ _ _ _ a' (World.drew _)) _ _
      simp only [List.take_succ_cons, List.take_zero, List.drop_succ_cons, List.drop_zero]
      iterate 3 still_step
      iterate 4 (refine wpStill_skip (by kernel_rfl) ?_)
      iterate 2 still_step
      iterate 7 (refine wpStill_skip (by kernel_rfl) ?_)
      iterate 2 still_step
      refine wpStill_nil ?_
      go_wp2_with fail
      refine (lives19_call _).mono ?_
      rintro e w3 ⟨rfl, hc⟩
      have B2 := hide ((HBL.out.drew).trans (hc.mono HBL.out.size))
      clear hc wz
      go_wp2
      go_ret
      exact ⟨rfl, B2.out⟩
end Go.Proofs.Ytimkedfdeghmnaa
