/- The laws of dct but the flat one, as walks. -/
import Derived.Test.YtimkedfdeghmnaaDoorLives
import Derived.Deep.RegionHeld3
namespace Go.Proofs.YtimkedfdeghmnaaDoor
open Go.RowKit
set_option linter.unusedVariables false
set_option linter.unusedSimpArgs false
attribute [local go_sem] setCell_drewN alloc_drewN
attribute [local irreducible] wpList wpStill

/-- What stays: the weights, and the block. -/
def Keeps (b : Nat) (l : Nat → Int) (W : World) : Prop := HasW W ∧ rowB W b 22 l
theorem keepW {b : Nat} {l : Nat → Int} {W : World} (h : W.rangeAt b 0 (vals l) ∧ Keeps b l W) : HasW W := h.2.1
theorem keepB {b : Nat} {l : Nat → Int} {W W' : World} (hb : Below W.heap.size W W') (h : W.rangeAt b 0 (vals l) ∧ Keeps b l W) : W'.rangeAt b 0 (vals l) ∧ Keeps b l W' :=
  ⟨row_range (row_below h.2.2 hb), h.2.1.below hb, row_below h.2.2 hb⟩

set_option maxHeartbeats 1000000 in
set_option maxRecDepth 100000 in
theorem law3_call (l : Nat → Int) (w : World) (hw : HasW w) : Calls Tryd.prog 3 #[blkV l] w fun e w' => e = .returned (.bool true) ∧ Below w.heap.size w w' := by
  obtain ⟨D, hD⟩ : ∃ D, fwd l = D := ⟨_, rfl⟩
  have c7 := hide (fun W (h : HasW W) => fwd_call l W h)
  have c8 := hide (fun W => refForward_call l W)
  have c9 := hide (fun W (h : HasW W) => lives_call W h)
  rw [hD] at c7 c8
  unfold blkV at *
  have eqw := run_eq_blk D
  have hrow := row_box w 22 l
  have HB := hide (below_alloc (Below.refl w.heap.size w) (.cells (vals l).toArray 22))
  have hs := hide (show (w.alloc (.cells (vals l).toArray 22)).rangeAt w.heap.size 0 (vals l) ∧ Keeps w.heap.size l (w.alloc (.cells (vals l).toArray 22)) from ⟨row_range hrow, hw.below HB.out, hrow⟩)
  have u22 := Tryd.underlying22
  have i22 := info22 l
  clear hrow hD hw
  go_enter Tryd.func3, Tryd.ntmps3
  go_wp2_with fail
  generalize w.alloc (.cells (vals l).toArray 22) = w1 at HB hs ⊢
  have hs' := hs.out
  clear hs
  refine wp_region_held_drew (S := fun W' => W'.rangeAt w.heap.size 0 (vals l) ∧ Keeps w.heap.size l W') (by kernel_rfl) (keepB ((Below.refl _ _).drew) hs') (fun hH => ?_)
  refine wpAnyH_take (i := 0) (oi := _) (v := .agg (vals l).toArray) rfl (by kernel_rfl) (by kernel_rfl) (by kernel_rfl) (fun _ _ _ h => h) (yieldsIf_load_mid (by rfl) _ _ rfl _ _ rfl _ _ (fun w h => h.1) u22 rfl i22) (by assumption) ?_
  try simp only [Act.put, List.setIfInBounds_toArray, List.set_cons_zero, List.set_cons_succ]
  refine wpAnyH_take (i := 2) (oi := _) (v := .agg (vals l).toArray) rfl (by kernel_rfl) (by kernel_rfl) (by kernel_rfl) (fun _ _ _ h => h) (yieldsIf_load_mid (by rfl) _ _ rfl _ _ rfl _ _ (fun w h => h.1) u22 rfl i22) (by assumption) ?_
  try simp only [Act.put, List.setIfInBounds_toArray, List.set_cons_zero, List.set_cons_succ]
  refine wpAnyH_ready (rs := [1]) (by kernel_rfl) (by simp) ?_
  refine AllReadyH.cons (o := _) rfl (fun K hK => ?_) AllReadyH.nil
  go_simp
  refine (c7.out _ (keepW hH)).mono ?_
  rintro e w2 ⟨rfl, hb2⟩
  refine hK.out _ _ (keepB (by first | exact hb2 | exact (Below.refl _ _).drew.trans hb2) hH) (fun hHeld => ?_)
  clear hK K hH
  have hH := hHeld
  clear hHeld
  try simp only [Act.put, List.setIfInBounds_toArray, List.set_cons_zero, List.set_cons_succ]
  refine wpAnyH_ready (rs := [3]) (by kernel_rfl) (by simp) ?_
  refine AllReadyH.cons (o := _) rfl (fun K hK => ?_) AllReadyH.nil
  go_simp
  refine (c8.out _).mono ?_
  rintro e w3 ⟨rfl, hb3⟩
  refine hK.out _ _ (keepB (by first | exact hb3 | exact (Below.refl _ _).drew.trans hb3) hH) (fun hHeld => ?_)
  clear hK K hH
  have hH := hHeld
  clear hHeld
  try simp only [Act.put, List.setIfInBounds_toArray, List.set_cons_zero, List.set_cons_succ]
  refine wpAnyH_take (i := 4) (oi := _) (v := .bool true) rfl (by kernel_rfl) (by kernel_rfl) (by kernel_rfl) (fun _ _ _ h => h) (Or.inl ⟨by rfl, fun w hSw => by go_simp⟩) (by assumption) ?_
  change wpAnyH _ _ _ _ _ _ _ (Act.put _ (some 7) _) _
  try simp only [Act.put, List.setIfInBounds_toArray, List.set_cons_zero, List.set_cons_succ]
  refine wpAnyH_take (i := 5) (oi := _) (v := .bool true) rfl (by kernel_rfl) (by kernel_rfl) (by kernel_rfl) (fun _ _ _ h => h) (Or.inl ⟨by rfl, fun w hSw => by go_simp⟩) (by assumption) ?_
  change wpAnyH _ _ _ _ _ _ _ (Act.put _ (some 8) _) _
  try simp only [Act.put, List.setIfInBounds_toArray, List.set_cons_zero, List.set_cons_succ]
  refine wpAnyH_ready (rs := [6]) (by kernel_rfl) (by simp) ?_
  refine AllReadyH.cons (o := _) rfl (fun K hK => ?_) AllReadyH.nil
  go_simp
  refine (c9.out _ (keepW hH)).mono ?_
  rintro e w4 ⟨rfl, hb4⟩
  refine hK.out _ _ (keepB (by first | exact hb4 | exact (Below.refl _ _).drew.trans hb4) hH) (fun hHeld => ?_)
  clear hK K hH
  have hH := hHeld
  clear hHeld
  try simp only [Act.put, List.setIfInBounds_toArray, List.set_cons_zero, List.set_cons_succ]
  refine wpAnyH_take (i := 7) (oi := _) (v := .bool true) rfl (by kernel_rfl) (by kernel_rfl) (by kernel_rfl) (fun _ _ _ h => h) (Or.inl ⟨by rfl, fun w hSw => by go_simp⟩) (by assumption) ?_
  change wpAnyH _ _ _ _ _ _ _ (Act.put _ (some 10) _) _
  try simp only [Act.put, List.setIfInBounds_toArray, List.set_cons_zero, List.set_cons_succ]
  refine wpAnyH_take (i := 8) (oi := _) (v := .bool true) rfl (by kernel_rfl) (by kernel_rfl) (by kernel_rfl) (fun _ _ _ h => h) (Or.inl ⟨by rfl, fun w hSw => by go_simp⟩) (by assumption) ?_
  change wpAnyH _ _ _ _ _ _ _ (Act.put _ (some 2) _) _
  try simp only [Act.put, List.setIfInBounds_toArray, List.set_cons_zero, List.set_cons_succ]
  refine wpAnyH_done (by kernel_rfl) ?_ _
  have BE := hide (bstep (bstep (bstep HB.out.drew hb2) hb3) hb4)
  clear hb2 hb3 hb4 HB
  go_wp2
  go_ret
  exact ⟨rfl, BE.out⟩

set_option maxHeartbeats 1000000 in
set_option maxRecDepth 100000 in
theorem law4_call (l : Nat → Int) (w : World) (hw : HasW w) : Calls Tryd.prog 4 #[blkV l] w fun e w' => e = .returned (.bool true) ∧ Below w.heap.size w w' := by
  obtain ⟨D, hD⟩ : ∃ D, inv l = D := ⟨_, rfl⟩
  have c7 := hide (fun W (h : HasW W) => inv_call l W h)
  have c8 := hide (fun W => refInverse_call l W)
  have c9 := hide (fun W (h : HasW W) => lives_call W h)
  rw [hD] at c7 c8
  unfold blkV at *
  have eqw := run_eq_blk D
  have hrow := row_box w 22 l
  have HB := hide (below_alloc (Below.refl w.heap.size w) (.cells (vals l).toArray 22))
  have hs := hide (show (w.alloc (.cells (vals l).toArray 22)).rangeAt w.heap.size 0 (vals l) ∧ Keeps w.heap.size l (w.alloc (.cells (vals l).toArray 22)) from ⟨row_range hrow, hw.below HB.out, hrow⟩)
  have u22 := Tryd.underlying22
  have i22 := info22 l
  clear hrow hD hw
  go_enter Tryd.func4, Tryd.ntmps4
  go_wp2_with fail
  generalize w.alloc (.cells (vals l).toArray 22) = w1 at HB hs ⊢
  have hs' := hs.out
  clear hs
  refine wp_region_held_drew (S := fun W' => W'.rangeAt w.heap.size 0 (vals l) ∧ Keeps w.heap.size l W') (by kernel_rfl) (keepB ((Below.refl _ _).drew) hs') (fun hH => ?_)
  refine wpAnyH_take (i := 0) (oi := _) (v := .agg (vals l).toArray) rfl (by kernel_rfl) (by kernel_rfl) (by kernel_rfl) (fun _ _ _ h => h) (yieldsIf_load_mid (by rfl) _ _ rfl _ _ rfl _ _ (fun w h => h.1) u22 rfl i22) (by assumption) ?_
  try simp only [Act.put, List.setIfInBounds_toArray, List.set_cons_zero, List.set_cons_succ]
  refine wpAnyH_take (i := 2) (oi := _) (v := .agg (vals l).toArray) rfl (by kernel_rfl) (by kernel_rfl) (by kernel_rfl) (fun _ _ _ h => h) (yieldsIf_load_mid (by rfl) _ _ rfl _ _ rfl _ _ (fun w h => h.1) u22 rfl i22) (by assumption) ?_
  try simp only [Act.put, List.setIfInBounds_toArray, List.set_cons_zero, List.set_cons_succ]
  refine wpAnyH_ready (rs := [1]) (by kernel_rfl) (by simp) ?_
  refine AllReadyH.cons (o := _) rfl (fun K hK => ?_) AllReadyH.nil
  go_simp
  refine (c7.out _ (keepW hH)).mono ?_
  rintro e w2 ⟨rfl, hb2⟩
  refine hK.out _ _ (keepB (by first | exact hb2 | exact (Below.refl _ _).drew.trans hb2) hH) (fun hHeld => ?_)
  clear hK K hH
  have hH := hHeld
  clear hHeld
  try simp only [Act.put, List.setIfInBounds_toArray, List.set_cons_zero, List.set_cons_succ]
  refine wpAnyH_ready (rs := [3]) (by kernel_rfl) (by simp) ?_
  refine AllReadyH.cons (o := _) rfl (fun K hK => ?_) AllReadyH.nil
  go_simp
  refine (c8.out _).mono ?_
  rintro e w3 ⟨rfl, hb3⟩
  refine hK.out _ _ (keepB (by first | exact hb3 | exact (Below.refl _ _).drew.trans hb3) hH) (fun hHeld => ?_)
  clear hK K hH
  have hH := hHeld
  clear hHeld
  try simp only [Act.put, List.setIfInBounds_toArray, List.set_cons_zero, List.set_cons_succ]
  refine wpAnyH_take (i := 4) (oi := _) (v := .bool true) rfl (by kernel_rfl) (by kernel_rfl) (by kernel_rfl) (fun _ _ _ h => h) (Or.inl ⟨by rfl, fun w hSw => by go_simp⟩) (by assumption) ?_
  change wpAnyH _ _ _ _ _ _ _ (Act.put _ (some 7) _) _
  try simp only [Act.put, List.setIfInBounds_toArray, List.set_cons_zero, List.set_cons_succ]
  refine wpAnyH_take (i := 5) (oi := _) (v := .bool true) rfl (by kernel_rfl) (by kernel_rfl) (by kernel_rfl) (fun _ _ _ h => h) (Or.inl ⟨by rfl, fun w hSw => by go_simp⟩) (by assumption) ?_
  change wpAnyH _ _ _ _ _ _ _ (Act.put _ (some 8) _) _
  try simp only [Act.put, List.setIfInBounds_toArray, List.set_cons_zero, List.set_cons_succ]
  refine wpAnyH_ready (rs := [6]) (by kernel_rfl) (by simp) ?_
  refine AllReadyH.cons (o := _) rfl (fun K hK => ?_) AllReadyH.nil
  go_simp
  refine (c9.out _ (keepW hH)).mono ?_
  rintro e w4 ⟨rfl, hb4⟩
  refine hK.out _ _ (keepB (by first | exact hb4 | exact (Below.refl _ _).drew.trans hb4) hH) (fun hHeld => ?_)
  clear hK K hH
  have hH := hHeld
  clear hHeld
  try simp only [Act.put, List.setIfInBounds_toArray, List.set_cons_zero, List.set_cons_succ]
  refine wpAnyH_take (i := 7) (oi := _) (v := .bool true) rfl (by kernel_rfl) (by kernel_rfl) (by kernel_rfl) (fun _ _ _ h => h) (Or.inl ⟨by rfl, fun w hSw => by go_simp⟩) (by assumption) ?_
  change wpAnyH _ _ _ _ _ _ _ (Act.put _ (some 10) _) _
  try simp only [Act.put, List.setIfInBounds_toArray, List.set_cons_zero, List.set_cons_succ]
  refine wpAnyH_take (i := 8) (oi := _) (v := .bool true) rfl (by kernel_rfl) (by kernel_rfl) (by kernel_rfl) (fun _ _ _ h => h) (Or.inl ⟨by rfl, fun w hSw => by go_simp⟩) (by assumption) ?_
  change wpAnyH _ _ _ _ _ _ _ (Act.put _ (some 2) _) _
  try simp only [Act.put, List.setIfInBounds_toArray, List.set_cons_zero, List.set_cons_succ]
  refine wpAnyH_done (by kernel_rfl) ?_ _
  have BE := hide (bstep (bstep (bstep HB.out.drew hb2) hb3) hb4)
  clear hb2 hb3 hb4 HB
  go_wp2
  go_ret
  exact ⟨rfl, BE.out⟩

set_option maxHeartbeats 2000000 in
set_option maxRecDepth 100000 in
theorem law5_call (l : Nat → Int) (w : World) (hw : HasW w) : Calls Tryd.prog 5 #[blkV l] w fun e w' => e = .returned (.bool true) ∧ Below w.heap.size w w' := by
  have ct := hide (fun W => turned_call l W)
  have cf := hide (fun W (h : HasW W) => fwd_call l W h)
  have cg := hide (fun W (h : HasW W) => fwd_call (turn l) W h)
  have ch := hide (fun W => turned_call (fwd l) W)
  have df := hide (fun W (h : HasW W) => inv_call l W h)
  have dg := hide (fun W (h : HasW W) => inv_call (turn l) W h)
  have dh := hide (fun W => turned_call (inv l) W)
  have c9 := hide (fun W (h : HasW W) => lives_call W h)
  rw [show blkV (fwd (turn l)) = blkV (turn (fwd l)) from blkV_congr fun i hi => fwd_turn l i hi] at cg
  rw [show blkV (inv (turn l)) = blkV (turn (inv l)) from blkV_congr fun i hi => inv_turn l i hi] at dg
  generalize turn (fwd l) = D at cg ch
  generalize turn (inv l) = E at dg dh
  generalize fwd l = F at cf ch
  generalize inv l = G at df dh
  generalize turn l = T at ct cg dg
  unfold blkV at *
  have eqw := run_eq_blk D
  have eqv := run_eq_blk E
  have hrow := row_box w 22 l
  have HB := hide (below_alloc (Below.refl w.heap.size w) (.cells (vals l).toArray 22))
  have hs := hide (show (w.alloc (.cells (vals l).toArray 22)).rangeAt w.heap.size 0 (vals l) ∧ Keeps w.heap.size l (w.alloc (.cells (vals l).toArray 22)) from ⟨row_range hrow, hw.below HB.out, hrow⟩)
  have u22 := Tryd.underlying22
  have i22 := info22 l
  clear hrow hw
  go_enter Tryd.func5, Tryd.ntmps5
  go_wp2_with fail
  generalize w.alloc (.cells (vals l).toArray 22) = w1 at HB hs ⊢
  have hs' := hs.out
  clear hs
  refine wp_region_held_drew (S := fun W' => W'.rangeAt w.heap.size 0 (vals l) ∧ Keeps w.heap.size l W') (by kernel_rfl) (keepB ((Below.refl _ _).drew) hs') (fun hH => ?_)
  refine wpAnyH_take (i := 0) (oi := _) (v := .agg (vals l).toArray) rfl (by kernel_rfl) (by kernel_rfl) (by kernel_rfl) (fun _ _ _ h => h) (yieldsIf_load_mid (by rfl) _ _ rfl _ _ rfl _ _ (fun w h => h.1) u22 rfl i22) (by assumption) ?_
  try simp only [Act.put, List.setIfInBounds_toArray, List.set_cons_zero, List.set_cons_succ]
  refine wpAnyH_take (i := 3) (oi := _) (v := .agg (vals l).toArray) rfl (by kernel_rfl) (by kernel_rfl) (by kernel_rfl) (fun _ _ _ h => h) (yieldsIf_load_mid (by rfl) _ _ rfl _ _ rfl _ _ (fun w h => h.1) u22 rfl i22) (by assumption) ?_
  try simp only [Act.put, List.setIfInBounds_toArray, List.set_cons_zero, List.set_cons_succ]
  refine wpAnyH_ready (rs := [1]) (by kernel_rfl) (by simp) ?_
  refine AllReadyH.cons (o := _) rfl (fun K hK => ?_) AllReadyH.nil
  go_simp
  refine (ct.out _).mono ?_
  rintro e w2 ⟨rfl, hb2⟩
  refine hK.out _ _ (keepB (by first | exact hb2 | exact (Below.refl _ _).drew.trans hb2) hH) (fun hHeld => ?_)
  clear hK K hH
  have hH := hHeld
  clear hHeld
  try simp only [Act.put, List.setIfInBounds_toArray, List.set_cons_zero, List.set_cons_succ]
  refine wpAnyH_ready (rs := [2]) (by kernel_rfl) (by simp) ?_
  refine AllReadyH.cons (o := _) rfl (fun K hK => ?_) AllReadyH.nil
  go_simp
  refine (cg.out _ (keepW hH)).mono ?_
  rintro e w3 ⟨rfl, hb3⟩
  refine hK.out _ _ (keepB (by first | exact hb3 | exact (Below.refl _ _).drew.trans hb3) hH) (fun hHeld => ?_)
  clear hK K hH
  have hH := hHeld
  clear hHeld
  try simp only [Act.put, List.setIfInBounds_toArray, List.set_cons_zero, List.set_cons_succ]
  refine wpAnyH_ready (rs := [4]) (by kernel_rfl) (by simp) ?_
  refine AllReadyH.cons (o := _) rfl (fun K hK => ?_) AllReadyH.nil
  go_simp
  refine (cf.out _ (keepW hH)).mono ?_
  rintro e w4 ⟨rfl, hb4⟩
  refine hK.out _ _ (keepB (by first | exact hb4 | exact (Below.refl _ _).drew.trans hb4) hH) (fun hHeld => ?_)
  clear hK K hH
  have hH := hHeld
  clear hHeld
  try simp only [Act.put, List.setIfInBounds_toArray, List.set_cons_zero, List.set_cons_succ]
  refine wpAnyH_ready (rs := [5]) (by kernel_rfl) (by simp) ?_
  refine AllReadyH.cons (o := _) rfl (fun K hK => ?_) AllReadyH.nil
  go_simp
  refine (ch.out _).mono ?_
  rintro e w5 ⟨rfl, hb5⟩
  refine hK.out _ _ (keepB (by first | exact hb5 | exact (Below.refl _ _).drew.trans hb5) hH) (fun hHeld => ?_)
  clear hK K hH
  have hH := hHeld
  clear hHeld
  try simp only [Act.put, List.setIfInBounds_toArray, List.set_cons_zero, List.set_cons_succ]
  refine wpAnyH_take (i := 6) (oi := _) (v := .bool true) rfl (by kernel_rfl) (by kernel_rfl) (by kernel_rfl) (fun _ _ _ h => h) (Or.inl ⟨by rfl, fun w hSw => by go_simp⟩) (by assumption) ?_
  change wpAnyH _ _ _ _ _ _ _ (Act.put _ (some 9) _) _
  try simp only [Act.put, List.setIfInBounds_toArray, List.set_cons_zero, List.set_cons_succ]
  refine wpAnyH_take (i := 7) (oi := _) (v := .bool true) rfl (by kernel_rfl) (by kernel_rfl) (by kernel_rfl) (fun _ _ _ h => h) (Or.inl ⟨by rfl, fun w hSw => by go_simp⟩) (by assumption) ?_
  change wpAnyH _ _ _ _ _ _ _ (Act.put _ (some 10) _) _
  try simp only [Act.put, List.setIfInBounds_toArray, List.set_cons_zero, List.set_cons_succ]
  refine wpAnyH_take (i := 8) (oi := _) (v := .agg (vals l).toArray) rfl (by kernel_rfl) (by kernel_rfl) (by kernel_rfl) (fun _ _ _ h => h) (yieldsIf_load_mid (by rfl) _ _ rfl _ _ rfl _ _ (fun w h => h.1) u22 rfl i22) (by assumption) ?_
  try simp only [Act.put, List.setIfInBounds_toArray, List.set_cons_zero, List.set_cons_succ]
  refine wpAnyH_take (i := 11) (oi := _) (v := .agg (vals l).toArray) rfl (by kernel_rfl) (by kernel_rfl) (by kernel_rfl) (fun _ _ _ h => h) (yieldsIf_load_mid (by rfl) _ _ rfl _ _ rfl _ _ (fun w h => h.1) u22 rfl i22) (by assumption) ?_
  try simp only [Act.put, List.setIfInBounds_toArray, List.set_cons_zero, List.set_cons_succ]
  refine wpAnyH_ready (rs := [9]) (by kernel_rfl) (by simp) ?_
  refine AllReadyH.cons (o := _) rfl (fun K hK => ?_) AllReadyH.nil
  go_simp
  refine (ct.out _).mono ?_
  rintro e w6 ⟨rfl, hb6⟩
  refine hK.out _ _ (keepB (by first | exact hb6 | exact (Below.refl _ _).drew.trans hb6) hH) (fun hHeld => ?_)
  clear hK K hH
  have hH := hHeld
  clear hHeld
  try simp only [Act.put, List.setIfInBounds_toArray, List.set_cons_zero, List.set_cons_succ]
  refine wpAnyH_ready (rs := [10]) (by kernel_rfl) (by simp) ?_
  refine AllReadyH.cons (o := _) rfl (fun K hK => ?_) AllReadyH.nil
  go_simp
  refine (dg.out _ (keepW hH)).mono ?_
  rintro e w7 ⟨rfl, hb7⟩
  refine hK.out _ _ (keepB (by first | exact hb7 | exact (Below.refl _ _).drew.trans hb7) hH) (fun hHeld => ?_)
  clear hK K hH
  have hH := hHeld
  clear hHeld
  try simp only [Act.put, List.setIfInBounds_toArray, List.set_cons_zero, List.set_cons_succ]
  refine wpAnyH_ready (rs := [12]) (by kernel_rfl) (by simp) ?_
  refine AllReadyH.cons (o := _) rfl (fun K hK => ?_) AllReadyH.nil
  go_simp
  refine (df.out _ (keepW hH)).mono ?_
  rintro e w8 ⟨rfl, hb8⟩
  refine hK.out _ _ (keepB (by first | exact hb8 | exact (Below.refl _ _).drew.trans hb8) hH) (fun hHeld => ?_)
  clear hK K hH
  have hH := hHeld
  clear hHeld
  try simp only [Act.put, List.setIfInBounds_toArray, List.set_cons_zero, List.set_cons_succ]
  refine wpAnyH_ready (rs := [13]) (by kernel_rfl) (by simp) ?_
  refine AllReadyH.cons (o := _) rfl (fun K hK => ?_) AllReadyH.nil
  go_simp
  refine (dh.out _).mono ?_
  rintro e w9 ⟨rfl, hb9⟩
  refine hK.out _ _ (keepB (by first | exact hb9 | exact (Below.refl _ _).drew.trans hb9) hH) (fun hHeld => ?_)
  clear hK K hH
  have hH := hHeld
  clear hHeld
  try simp only [Act.put, List.setIfInBounds_toArray, List.set_cons_zero, List.set_cons_succ]
  refine wpAnyH_take (i := 14) (oi := _) (v := .bool true) rfl (by kernel_rfl) (by kernel_rfl) (by kernel_rfl) (fun _ _ _ h => h) (Or.inl ⟨by rfl, fun w hSw => by go_simp⟩) (by assumption) ?_
  change wpAnyH _ _ _ _ _ _ _ (Act.put _ (some 17) _) _
  try simp only [Act.put, List.setIfInBounds_toArray, List.set_cons_zero, List.set_cons_succ]
  refine wpAnyH_take (i := 15) (oi := _) (v := .bool true) rfl (by kernel_rfl) (by kernel_rfl) (by kernel_rfl) (fun _ _ _ h => h) (Or.inl ⟨by rfl, fun w hSw => by go_simp⟩) (by assumption) ?_
  change wpAnyH _ _ _ _ _ _ _ (Act.put _ (some 18) _) _
  try simp only [Act.put, List.setIfInBounds_toArray, List.set_cons_zero, List.set_cons_succ]
  refine wpAnyH_take (i := 16) (oi := _) (v := .bool true) rfl (by kernel_rfl) (by kernel_rfl) (by kernel_rfl) (fun _ _ _ h => h) (Or.inl ⟨by rfl, fun w hSw => by go_simp⟩) (by assumption) ?_
  change wpAnyH _ _ _ _ _ _ _ (Act.put _ (some 19) _) _
  try simp only [Act.put, List.setIfInBounds_toArray, List.set_cons_zero, List.set_cons_succ]
  refine wpAnyH_ready (rs := [17]) (by kernel_rfl) (by simp) ?_
  refine AllReadyH.cons (o := _) rfl (fun K hK => ?_) AllReadyH.nil
  go_simp
  refine (c9.out _ (keepW hH)).mono ?_
  rintro e w10 ⟨rfl, hb10⟩
  refine hK.out _ _ (keepB (by first | exact hb10 | exact (Below.refl _ _).drew.trans hb10) hH) (fun hHeld => ?_)
  clear hK K hH
  have hH := hHeld
  clear hHeld
  try simp only [Act.put, List.setIfInBounds_toArray, List.set_cons_zero, List.set_cons_succ]
  refine wpAnyH_take (i := 18) (oi := _) (v := .bool true) rfl (by kernel_rfl) (by kernel_rfl) (by kernel_rfl) (fun _ _ _ h => h) (Or.inl ⟨by rfl, fun w hSw => by go_simp⟩) (by assumption) ?_
  change wpAnyH _ _ _ _ _ _ _ (Act.put _ (some 21) _) _
  try simp only [Act.put, List.setIfInBounds_toArray, List.set_cons_zero, List.set_cons_succ]
  refine wpAnyH_take (i := 19) (oi := _) (v := .bool true) rfl (by kernel_rfl) (by kernel_rfl) (by kernel_rfl) (fun _ _ _ h => h) (Or.inl ⟨by rfl, fun w hSw => by go_simp⟩) (by assumption) ?_
  change wpAnyH _ _ _ _ _ _ _ (Act.put _ (some 2) _) _
  try simp only [Act.put, List.setIfInBounds_toArray, List.set_cons_zero, List.set_cons_succ]
  refine wpAnyH_done (by kernel_rfl) ?_ _
  have BE := hide (bstep (bstep (bstep (bstep (bstep (bstep (bstep (bstep (bstep HB.out.drew hb2) hb3) hb4) hb5) hb6) hb7) hb8) hb9) hb10)
  clear hb2 hb3 hb4 hb5 hb6 hb7 hb8 hb9 hb10 HB
  go_wp2
  go_ret
  exact ⟨rfl, BE.out⟩

end Go.Proofs.YtimkedfdeghmnaaDoor
