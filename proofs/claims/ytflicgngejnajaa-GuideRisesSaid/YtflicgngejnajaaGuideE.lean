/- The chapter's examples of guide. -/
import Derived.Test.YtflicgngejnajaaSheetC
import Derived.Deep.RegionHeld3
namespace Go.Proofs.Ytflicgngejnajaa
open Go.RowKit
set_option linter.unusedVariables false
set_option linter.unusedSimpArgs false
attribute [local go_sem] setCell_drewN alloc_drewN
attribute [local irreducible] wpList

theorem rows_call (bu dr le st tr : Int) (ro sf pi : Bool) (rf fl fm : Int) (int : Bool) (q : Int) (sa : Option Addr) (sn sc : Nat) (ra : Option Addr) (rc : Nat) (z floor : Int) (R : List RowD) (w : World) (hR : IsRows w ra R) (hB : Bnd R) :
    Calls Try.prog 15 #[confV bu dr le st tr ro sf pi, sheetV rf fl fm int q sa sn sc ra R.length rc z, .int .i64 floor] w
      (MadeInts ((R.map fun r => (r.sum : Int)).map (grow1 ro pi (clip floor 1 31) ((R.map fun r => (r.sum : Int)).sum / (R.length : Int)))) w) := by
  have hf := clip_bd (n := floor) (lo := 1) (hi := 31) (by omega)
  have hE := events_bd hB
  have c1 : ∀ W, Below w.heap.size w W → Calls Try.prog 13 #[sheetV rf fl fm int q sa sn sc ra R.length rc z] W (MadeInts (R.map fun r => (r.sum : Int)) W) :=
    fun W hb => events_call rf fl fm int q sa sn sc ra rc z R W (hR.below hb) hB
  cases ro <;> cases pi
  · exact rows_ff bu dr le st tr sf rf fl fm int q sa sn sc ra R.length rc z floor _ w (by simp [Hid]) hE hB.1 _ _ rfl hf.1 hf.2 rfl c1
  · exact rows_ft bu dr le st tr sf rf fl fm int q sa sn sc ra R.length rc z floor _ w (by simp [Hid]) hE hB.1 _ _ rfl hf.1 hf.2 rfl c1
  · exact rows_tf bu dr le st tr sf rf fl fm int q sa sn sc ra R.length rc z floor _ w (by simp [Hid]) hE hB.1 _ _ rfl hf.1 hf.2 rfl c1
  · exact rows_tt bu dr le st tr sf rf fl fm int q sa sn sc ra R.length rc z floor _ w (by simp [Hid]) hE hB.1 _ _ rfl hf.1 hf.2 rfl c1

/-- A row of nothing. -/
def row0 : RowD := { hd := false, id := 0, q := 0, a := none, c := 0, cells := [] }

theorem isRows0 (w : World) : IsRows (w.alloc (.cells #[.bool false, .int .i64 0, .int .i64 0, .slice none 0 0, .bool false, .int .i64 0, .int .i64 0, .slice none 0 0] 42)) (some ⟨w.heap.size, 0, none⟩) [row0, row0] := by
  intro k hk
  refine ⟨w.heap.size, 0, rfl, by simp, ?_⟩
  match k, hk with
  | 0, _ => exact ⟨by simp [go_sem, row0], by simp [go_sem, row0], by simp [go_sem, row0], by simp [go_sem, row0], fun k hk => absurd hk (by simp [row0])⟩
  | 1, _ => exact ⟨by simp [go_sem, row0], by simp [go_sem, row0], by simp [go_sem, row0], by simp [go_sem, row0], fun k hk => absurd hk (by simp [row0])⟩

theorem bnd0 : Bnd [row0, row0] := by
  refine ⟨by simp, fun r hr => ?_⟩
  simp at hr
  subst hr
  exact ⟨by simp [row0], fun c hc => absurd hc (by simp [row0])⟩

theorem rows0_call (ra : Option Addr) (w : World) (hR : IsRows w ra [row0, row0]) :
    Calls Try.prog 15 #[confV 1000 100 1 10 3 false false false, sheetV 0 0 0 false 0 none 0 0 ra 2 2 0, .int .i64 5] w fun e w' => ∃ a cap, e = .returned (.slice a 2 cap) ∧ Below w.heap.size w w' := by
  refine (rows_call 1000 100 1 10 3 false false false 0 0 0 false 0 none 0 0 ra 2 0 5 [row0, row0] w hR bnd0).mono ?_
  rintro e w' ⟨v, rfl, ⟨a, cap, hv, _⟩, hb⟩
  exact ⟨a, cap, by rw [hv]; rfl, hb⟩

theorem makeRows (w : World) : (Instr.makeSlice 30 (.int .i64 2) (.int .i64 2)).run Try.prog w = .ok (.slice (some ⟨w.heap.size, 0, none⟩) 2 2) (w.alloc (.cells #[.bool false, .int .i64 0, .int .i64 0, .slice none 0 0, .bool false, .int .i64 0, .int .i64 0, .slice none 0 0] 42)) := by kernel_rfl
attribute [local go_sem] makeRows

theorem bstep {a w w' : World} (h : Below a.heap.size a w) (hb : Below w.heap.size w w') : Below a.heap.size a w' := h.trans (hb.mono h.size)

theorem isInts_new (w : World) : IsInts (w.alloc (.cells #[.int .i64 16, .int .i64 26, .int .i64 31] 3)) (.slice (some ⟨w.heap.size, 0, none⟩) 3 3) [16, 26, 31] := by
  refine ⟨some ⟨w.heap.size, 0, none⟩, 3, rfl, fun _ => ⟨w.heap.size, 0, rfl, by simp, fun i hi => ?_⟩⟩
  match i, hi with
  | 0, _ => simp [go_sem]
  | 1, _ => simp [go_sem]
  | 2, _ => simp [go_sem]

theorem confKeep {b : Nat} {W W' : World} (hb : Below W.heap.size W W') (h : W.cell? ⟨b, 0, none⟩ = some (.int .i64 1000) ∧ W.cell? ⟨b, 1, none⟩ = some (.int .i64 100) ∧ W.cell? ⟨b, 2, none⟩ = some (.int .i64 1) ∧ W.cell? ⟨b, 3, none⟩ = some (.int .i64 10) ∧ W.cell? ⟨b, 4, none⟩ = some (.int .i64 3) ∧ W.cell? ⟨b, 5, none⟩ = some (.bool false) ∧ W.cell? ⟨b, 6, none⟩ = some (.bool false) ∧ W.cell? ⟨b, 7, none⟩ = some (.bool false) ∧ b < W.heap.size) :
    W'.cell? ⟨b, 0, none⟩ = some (.int .i64 1000) ∧ W'.cell? ⟨b, 1, none⟩ = some (.int .i64 100) ∧ W'.cell? ⟨b, 2, none⟩ = some (.int .i64 1) ∧ W'.cell? ⟨b, 3, none⟩ = some (.int .i64 10) ∧ W'.cell? ⟨b, 4, none⟩ = some (.int .i64 3) ∧ W'.cell? ⟨b, 5, none⟩ = some (.bool false) ∧ W'.cell? ⟨b, 6, none⟩ = some (.bool false) ∧ W'.cell? ⟨b, 7, none⟩ = some (.bool false) ∧ b < W'.heap.size := by
  obtain ⟨h0, h1, h2, h3, h4, h5, h6, h7, h8⟩ := h
  exact ⟨by rw [hb.cell (p := ⟨b, _, none⟩) h8]; exact h0, by rw [hb.cell (p := ⟨b, _, none⟩) h8]; exact h1, by rw [hb.cell (p := ⟨b, _, none⟩) h8]; exact h2, by rw [hb.cell (p := ⟨b, _, none⟩) h8]; exact h3, by rw [hb.cell (p := ⟨b, _, none⟩) h8]; exact h4, by rw [hb.cell (p := ⟨b, _, none⟩) h8]; exact h5, by rw [hb.cell (p := ⟨b, _, none⟩) h8]; exact h6, by rw [hb.cell (p := ⟨b, _, none⟩) h8]; exact h7, Nat.lt_of_lt_of_le h8 hb.size⟩

set_option maxHeartbeats 1000000 in
theorem lives42_call (w : World) : Calls Try.prog 11 #[] w fun e w' => e = .returned (.bool true) ∧ Below w.heap.size w w' := by
  have c6a : ∀ W, Calls Try.prog 6 #[confV 1000 100 1 10 3 false false false, .int .i64 100] W fun e w' => e = .returned (.int .i64 1) ∧ Below W.heap.size W w' := fun W => first_call 1000 100 1 10 3 false false false 100 W
  have c6b : ∀ W, Calls Try.prog 6 #[confV 1000 100 1 10 3 false false false, .int .i64 600] W fun e w' => e = .returned (.int .i64 16) ∧ Below W.heap.size W w' := fun W => first_call 1000 100 1 10 3 false false false 600 W
  have c9 : ∀ W, Calls Try.prog 9 #[confV 1000 100 1 10 3 false false false, .int .i64 600] W (MadeInts [16, 26, 31] W) := fun W => list_call 1000 100 1 10 3 false false false 600 W
  have C6a := hide c6a
  have C6b := hide c6b
  have C9 := hide c9
  clear c6a c6b c9
  go_enter Try.func11, Try.ntmps11
  go_wp2_with fail
  have HS : (w.alloc (.cells #[.int .i64 1000, .int .i64 100, .int .i64 1, .int .i64 10, .int .i64 3, .bool false, .bool false, .bool false] 23)).cell? ⟨w.heap.size, 0, none⟩ = some (.int .i64 1000) ∧ (w.alloc (.cells #[.int .i64 1000, .int .i64 100, .int .i64 1, .int .i64 10, .int .i64 3, .bool false, .bool false, .bool false] 23)).cell? ⟨w.heap.size, 1, none⟩ = some (.int .i64 100) ∧ (w.alloc (.cells #[.int .i64 1000, .int .i64 100, .int .i64 1, .int .i64 10, .int .i64 3, .bool false, .bool false, .bool false] 23)).cell? ⟨w.heap.size, 2, none⟩ = some (.int .i64 1) ∧ (w.alloc (.cells #[.int .i64 1000, .int .i64 100, .int .i64 1, .int .i64 10, .int .i64 3, .bool false, .bool false, .bool false] 23)).cell? ⟨w.heap.size, 3, none⟩ = some (.int .i64 10) ∧ (w.alloc (.cells #[.int .i64 1000, .int .i64 100, .int .i64 1, .int .i64 10, .int .i64 3, .bool false, .bool false, .bool false] 23)).cell? ⟨w.heap.size, 4, none⟩ = some (.int .i64 3) ∧ (w.alloc (.cells #[.int .i64 1000, .int .i64 100, .int .i64 1, .int .i64 10, .int .i64 3, .bool false, .bool false, .bool false] 23)).cell? ⟨w.heap.size, 5, none⟩ = some (.bool false) ∧ (w.alloc (.cells #[.int .i64 1000, .int .i64 100, .int .i64 1, .int .i64 10, .int .i64 3, .bool false, .bool false, .bool false] 23)).cell? ⟨w.heap.size, 6, none⟩ = some (.bool false) ∧ (w.alloc (.cells #[.int .i64 1000, .int .i64 100, .int .i64 1, .int .i64 10, .int .i64 3, .bool false, .bool false, .bool false] 23)).cell? ⟨w.heap.size, 7, none⟩ = some (.bool false) ∧ w.heap.size < (w.alloc (.cells #[.int .i64 1000, .int .i64 100, .int .i64 1, .int .i64 10, .int .i64 3, .bool false, .bool false, .bool false] 23)).heap.size := by simp [go_sem]
  have BA := hide (below_alloc (Below.refl w.heap.size w) (.cells #[.int .i64 1000, .int .i64 100, .int .i64 1, .int .i64 10, .int .i64 3, .bool false, .bool false, .bool false] 23))
  generalize w.alloc (.cells #[.int .i64 1000, .int .i64 100, .int .i64 1, .int .i64 10, .int .i64 3, .bool false, .bool false, .bool false] 23) = W0 at HS BA ⊢
  go_region_held3 (fun W' => W'.cell? ⟨w.heap.size, 0, none⟩ = some (.int .i64 1000) ∧ W'.cell? ⟨w.heap.size, 1, none⟩ = some (.int .i64 100) ∧ W'.cell? ⟨w.heap.size, 2, none⟩ = some (.int .i64 1) ∧ W'.cell? ⟨w.heap.size, 3, none⟩ = some (.int .i64 10) ∧ W'.cell? ⟨w.heap.size, 4, none⟩ = some (.int .i64 3) ∧ W'.cell? ⟨w.heap.size, 5, none⟩ = some (.bool false) ∧ W'.cell? ⟨w.heap.size, 6, none⟩ = some (.bool false) ∧ W'.cell? ⟨w.heap.size, 7, none⟩ = some (.bool false) ∧ w.heap.size < W'.heap.size)
    (first | (refine confKeep ?_ ‹_›; assumption) | (refine confKeep (below_alloc (Below.refl _ _) _) ‹_›) | (refine confKeep ((Below.refl _ _).drew) ‹_›))
    (first | (go_at_call 6; (with_reducible refine (C6a.out _).mono ?_); rintro e w1 ⟨rfl, hb1⟩) | (go_at_call 6; (with_reducible refine (C6b.out _).mono ?_); rintro e w2 ⟨rfl, hb2⟩) | (go_at_call 9; (with_reducible refine (C9.out _).mono ?_); rintro e w3 ⟨v3, rfl, hi3, hb3⟩) | (go_at_call 8; (with_reducible refine (same_call _ _ [16, 26, 31] _ ?_ ?_ (by decide)).mono ?_); (first | exact hi3 | exact hi3.below (below_alloc (Below.refl _ _) _)); (first | exact isInts_new _ | exact (isInts_new _).below hb3); rintro e w4 ⟨rfl, hb4⟩) | (go_at_call 15; (with_reducible refine (rows0_call _ _ ?_).mono ?_); exact isRows0 _; rintro e w5 ⟨a5, c5, rfl, hb5⟩))
  all_goals
    have BZ : Below w.heap.size w w5 := by
      have b2 := bstep (bstep BA.out.drew hb1) hb2
      first
        | exact bstep (below_alloc (bstep (below_alloc (bstep b2 hb3) _) hb4) _) hb5
        | exact bstep (below_alloc (bstep (bstep (below_alloc b2 _) hb3) hb4) _) hb5
    have BE := hide BZ
    clear BZ hb1 hb2 hb3 hb4 hb5 hi3 HS BA
    go_wp2
    go_ret
    exact ⟨rfl, BE.out⟩
end Go.Proofs.Ytflicgngejnajaa
