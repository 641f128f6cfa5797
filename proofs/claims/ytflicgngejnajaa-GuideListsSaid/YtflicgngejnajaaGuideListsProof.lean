/- GuideLists: at any level and for any Conf the program's first floor and its list of floors are those of its reference; the chapter's examples hold. No condition. -/
import Derived.Test.YtflicgngejnajaaRows
import Derived.Test.YtflicgngejnajaaGuideF
import Derived.Test.YtflicgngejnajaaGuideOpen
namespace Go.Proofs.Ytflicgngejnajaa.guideListsLaw
open Go.Proofs.Ytflicgngejnajaa Go.ChangeShapes Go.WideShapes Go.ChangeAt Go.RowKit
set_option linter.unusedVariables false
set_option linter.unusedSimpArgs false
attribute [local go_sem] setCell_drewN alloc_drewN
attribute [local irreducible] wpList

set_option maxHeartbeats 1000000 in
theorem walk (bu dr le st tr : Int) (ro sf pi : Bool) (level : Int) (w : World) :
    Calls Try.prog 3 #[confV bu dr le st tr ro sf pi, .int .i64 level] w fun e w' => e = .returned (.bool true) ∧ Below w.heap.size w w' := by
  obtain ⟨L, hL⟩ : ∃ L, glist bu dr le st tr pi level = L := ⟨_, rfl⟩
  obtain ⟨f, hf⟩ : ∃ f, gfirst bu dr le pi level = f := ⟨_, rfl⟩
  have hlen := glist_len bu dr le st tr pi level
  rw [hL] at hlen
  have c6 := fun W => first_call bu dr le st tr ro sf pi level W
  have c7 := fun W => refFirst_call bu dr le st tr ro sf pi level W
  have c9 := fun W => list_call bu dr le st tr ro sf pi level W
  have c10 := fun W => refList_call bu dr le st tr ro sf pi level W
  rw [hf] at c6 c7
  rw [hL] at c9 c10
  have C6 := hide c6
  have C7 := hide c7
  have C9 := hide c9
  have C10 := hide c10
  clear c6 c7 c9 c10 hL hf
  go_enter Try.func3, Try.ntmps3
  go_wp2_with fail
  have HS : (w.alloc (.cells #[.int .i64 bu, .int .i64 dr, .int .i64 le, .int .i64 st, .int .i64 tr, .bool ro, .bool sf, .bool pi] 23)).cell? ⟨w.heap.size, 0, none⟩ = some (.int .i64 bu) ∧ (w.alloc (.cells #[.int .i64 bu, .int .i64 dr, .int .i64 le, .int .i64 st, .int .i64 tr, .bool ro, .bool sf, .bool pi] 23)).cell? ⟨w.heap.size, 1, none⟩ = some (.int .i64 dr) ∧ (w.alloc (.cells #[.int .i64 bu, .int .i64 dr, .int .i64 le, .int .i64 st, .int .i64 tr, .bool ro, .bool sf, .bool pi] 23)).cell? ⟨w.heap.size, 2, none⟩ = some (.int .i64 le) ∧ (w.alloc (.cells #[.int .i64 bu, .int .i64 dr, .int .i64 le, .int .i64 st, .int .i64 tr, .bool ro, .bool sf, .bool pi] 23)).cell? ⟨w.heap.size, 3, none⟩ = some (.int .i64 st) ∧ (w.alloc (.cells #[.int .i64 bu, .int .i64 dr, .int .i64 le, .int .i64 st, .int .i64 tr, .bool ro, .bool sf, .bool pi] 23)).cell? ⟨w.heap.size, 4, none⟩ = some (.int .i64 tr) ∧ (w.alloc (.cells #[.int .i64 bu, .int .i64 dr, .int .i64 le, .int .i64 st, .int .i64 tr, .bool ro, .bool sf, .bool pi] 23)).cell? ⟨w.heap.size, 5, none⟩ = some (.bool ro) ∧ (w.alloc (.cells #[.int .i64 bu, .int .i64 dr, .int .i64 le, .int .i64 st, .int .i64 tr, .bool ro, .bool sf, .bool pi] 23)).cell? ⟨w.heap.size, 6, none⟩ = some (.bool sf) ∧ (w.alloc (.cells #[.int .i64 bu, .int .i64 dr, .int .i64 le, .int .i64 st, .int .i64 tr, .bool ro, .bool sf, .bool pi] 23)).cell? ⟨w.heap.size, 7, none⟩ = some (.bool pi) ∧ w.heap.size < (w.alloc (.cells #[.int .i64 bu, .int .i64 dr, .int .i64 le, .int .i64 st, .int .i64 tr, .bool ro, .bool sf, .bool pi] 23)).heap.size := by simp [go_sem]
  have BA := hide (below_alloc (Below.refl w.heap.size w) (.cells #[.int .i64 bu, .int .i64 dr, .int .i64 le, .int .i64 st, .int .i64 tr, .bool ro, .bool sf, .bool pi] 23))
  generalize w.alloc (.cells #[.int .i64 bu, .int .i64 dr, .int .i64 le, .int .i64 st, .int .i64 tr, .bool ro, .bool sf, .bool pi] 23) = W0 at HS BA ⊢
  go_region_held3 (fun W' => W'.cell? ⟨w.heap.size, 0, none⟩ = some (.int .i64 bu) ∧ W'.cell? ⟨w.heap.size, 1, none⟩ = some (.int .i64 dr) ∧ W'.cell? ⟨w.heap.size, 2, none⟩ = some (.int .i64 le) ∧ W'.cell? ⟨w.heap.size, 3, none⟩ = some (.int .i64 st) ∧ W'.cell? ⟨w.heap.size, 4, none⟩ = some (.int .i64 tr) ∧ W'.cell? ⟨w.heap.size, 5, none⟩ = some (.bool ro) ∧ W'.cell? ⟨w.heap.size, 6, none⟩ = some (.bool sf) ∧ W'.cell? ⟨w.heap.size, 7, none⟩ = some (.bool pi) ∧ w.heap.size < W'.heap.size)
    (first | (refine confKeepS ?_ ‹_›; assumption) | (refine confKeepS (below_alloc (Below.refl _ _) _) ‹_›) | (refine confKeepS ((Below.refl _ _).drew) ‹_›))
    (first | (go_at_call 6; (with_reducible refine (C6.out _).mono ?_); rintro e w1 ⟨rfl, hb1⟩) | (go_at_call 7; (with_reducible refine (C7.out _).mono ?_); rintro e w2 ⟨rfl, hb2⟩) | (go_at_call 9; (with_reducible refine (C9.out _).mono ?_); rintro e w3 ⟨v3, rfl, hi3, hb3⟩) | (go_at_call 10; (with_reducible refine (C10.out _).mono ?_); rintro e w4 ⟨v4, rfl, hi4, hb4⟩) | (go_at_call 8; (with_reducible refine (same_call _ _ L _ ?_ ?_ (by omega)).mono ?_); exact hi3.below hb4; exact hi4; rintro e w5 ⟨rfl, hb5⟩) | (go_at_call 11; (with_reducible refine (lives42_call _).mono ?_); rintro e w6 ⟨rfl, hb6⟩))
  all_goals
    have BZ : Below w.heap.size w w6 := bstep (bstep (bstep (bstep (bstep (bstep BA.out.drew hb1) hb2) hb3) hb4) hb5) hb6
    have BE := hide BZ
    clear BZ hb1 hb2 hb3 hb4 hb5 hb6 hi3 hi4 HS BA
    go_wp2
    go_ret
    exact ⟨rfl, BE.out⟩

theorem own : ownKnob Try.prog.godebug = none := by kernel_rfl
theorem laidOut : laidOutB Try.prog = true := by kernel_rfl

set_option maxRecDepth 100000 in
theorem lifted (os : Os) (started : os.Started) (H : Type) (enc : TypeId × Value → H) :
    ReturnsInHanded {} Try.checked os 3 .any (Rows.guideListsSpec.pre6 enc Try.prog Try.f3 Rows.guideListsRow.domain false) (Rows.guideListsSpec.post enc Try.prog Try.f3 false true false false) := by
  refine returnsInHanded_of_change (C := Try.checked) own started (by kernel_rfl) Try.func3
    (ChangeSpec.witness6 (enc := enc) (C := Try.checked) false ⟨#[], #[.agg #[.int .i64 0, .int .i64 0, .int .i64 0, .int .i64 0, .int .i64 0, .bool false, .bool false, .bool false], .int .i64 0], []⟩ 8 (by kernel_rfl) (by kernel_rfl) (by kernel_rfl) (by kernel_rfl)) ?_
  intro W base args ds gs before hval0 hW hcnd _
  have hval : ∀ (j : Nat) t v, Try.f3.params[j]? = some t → args[j]? = some v → Value.okWide Try.prog W .any base t v := hval0
  have hW' := hW
  obtain ⟨p, q, hA0, hV, rfl, hfz, hnd⟩ := hW
  have hA : DataW.TrodAll enc Try.prog W 0 (fun _ => true) true Try.f3.params.toList args.toList ds p := hA0
  rw [Try.params3] at hA hval
  obtain ⟨v0, vs0, d0, ds0, p0, q0, hargs, rfl, rfl, h0, r0⟩ := trodAll_cons hA
  obtain ⟨v1, vs1, d1, ds1, p1, q1, rfl, rfl, rfl, h1, r1⟩ := trodAll_cons r0
  obtain ⟨rfl, rfl, rfl⟩ := trodAll_nil r1
  obtain rfl : args = #[v0, v1] := by cases args; simp_all
  obtain ⟨rfl, rfl⟩ := trodVars_none hV
  have k0 := h0
  have lt0 : ∀ x ∈ p0, x.block < W.heap.size := by obtain ⟨m, hm⟩ := k0; exact DataW.trod_lt m _ _ _ hm
  have k1 := h1
  have lt1 : ∀ x ∈ p1, x.block < W.heap.size := by obtain ⟨m, hm⟩ := k1; exact DataW.trod_lt m _ _ _ hm
  obtain ⟨a1, rfl, rfl, rfl, w1⟩ := open_int Try.underlying3 (hval 1 3 v1 rfl rfl) h1
  obtain ⟨bu, dr, le, st, tr, ro, sf, pi, rfl⟩ := open_conf (by kernel_rfl) (hval 0 23 v0 rfl rfl) h0
  clear hA0 hval0
  refine (walk bu dr le st tr ro sf pi a1 W).mono fun e W' ⟨he, bel⟩ => ?_
  subst he
  exact ⟨_, rfl, _, _, _, [], _, [], hW', trodAll_mk1 (shut_bool Try.underlying4 _), (trodAll_cons_mk (Below.trod laidOut (by kernel_rfl) (of_decide_eq_true (by kernel_rfl)) k0 bel lt0) (trodAll_cons_mk (Below.trod laidOut (by kernel_rfl) (of_decide_eq_true (by kernel_rfl)) k1 bel lt1) trodAll_mk0)), rfl, bel.frame _, fun h => by cases h⟩

theorem over : Rows.guideListsRow.holds Try.pinned (OpenSpec.ofChange Rows.guideListsSpec) :=
  OpenClaim.holds_of_wide 3 Try.f3 rfl rfl rfl rfl rfl rfl rfl ⟨rfl, rfl, rfl, rfl, rfl⟩ rfl rfl rfl rfl rfl (by kernel_rfl) Try.func3 (by kernel_rfl)
    (of_decide_eq_true (by kernel_rfl)) (by unfold Func.isWrapper; first | (rw [if_pos (by decide +kernel)]; kernel_rfl) | (rw [if_neg (by decide +kernel)]; exact ⟨rfl, rfl⟩))
    (fun os started H enc _ => lifted os started H enc)

theorem proved : Rows.GuideListsSaid := over
#print axioms proved
end Go.Proofs.Ytflicgngejnajaa.guideListsLaw
