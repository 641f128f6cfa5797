/- GuideRises: the program's floors rise from one that is not below the least up to 31, as many as tries at most; of a fuller bucket the first is no less; where it is pinned the one floor is 1. No condition. -/
import Derived.Test.YtflicgngejnajaaRows
import Derived.Test.YtflicgngejnajaaGuideH
import Derived.Test.YtflicgngejnajaaGuideOpen
namespace Go.Proofs.Ytflicgngejnajaa.guideRisesLaw
open Go.Proofs.Ytflicgngejnajaa Go.ChangeShapes Go.WideShapes Go.ChangeAt Go.RowKit
set_option linter.unusedVariables false
set_option linter.unusedSimpArgs false

theorem walk (bu dr le st tr : Int) (ro sf pi : Bool) (level more : Int) (w : World) (hm0 : 0 ≤ more) (hm1 : more ≤ 65535) :
    Calls Try.prog 5 #[confV bu dr le st tr ro sf pi, .int .i64 level, .int .u16 more] w fun e w' => e = .returned (.bool true) ∧ Below w.heap.size w w' := by
  cases pi
  · have c9 := fun W => list_call bu dr le st tr ro sf false level W
    have c6 := fun W => first_call bu dr le st tr ro sf false level W
    have c6b := fun W => first_call bu dr le st tr ro sf false (level + more) W
    have hr := glist_rises bu dr le st tr level
    have hlo := gfirst_least bu dr le level
    have hmono := gfirst_mono bu dr le (l := level) (m := level + more) (by omega)
    have he1 := clip_bd (n := le) (lo := 1) (hi := 31) (by omega)
    obtain ⟨r0, r1, r2, r3, r4, r5⟩ := hr
    generalize hL : glist bu dr le st tr false level = L at *
    generalize gfirst bu dr le false level = f at *
    generalize gfirst bu dr le false (level + more) = f2 at *
    generalize hE : clip le 1 31 = e at *
    by_cases h1 : L.length = 1
    · have hl31 : L = [31] := by
        match L, h1 with
        | [x], _ => simp at r4; rw [r4]
      subst hl31
      by_cases h0 : level < 0
      · exact rises_one_lo bu dr le st tr ro sf level more w hm0 hm1 f e hE hlo.1 hlo.2 he1.1 c9 c6 h0
      · by_cases h2 : 1099511627776 < level
        · exact rises_one_hi bu dr le st tr ro sf level more w hm0 hm1 f e hE hlo.1 hlo.2 he1.1 c9 c6 h2
        · exact rises_one_mid bu dr le st tr ro sf level more w hm0 hm1 f e hE hlo.1 hlo.2 he1.1 c9 c6 (by omega) (by omega) f2 hmono c6b
    · obtain ⟨m, hm⟩ : ∃ m, L.length = m + 2 := ⟨L.length - 2, by omega⟩
      have hT : (m : Int) + 2 ≤ clip tr 1 31 := by omega
      have hh := r2 (by omega)
      have hr3 : ∀ i, i + 1 < m + 2 → L.getD i 0 < L.getD (i + 1) 0 := fun i hi => r3 i (by omega)
      have hlast : L.getD (m + 1) 0 = 31 := by rw [hm] at r4; exact r4
      by_cases h0 : level < 0
      · exact rises_many_lo bu dr le st tr ro sf level more w hm0 hm1 f e hE hlo.1 hlo.2 he1.1 m L hm hT hh hr3 hlast c9 c6 h0
      · by_cases h2 : 1099511627776 < level
        · exact rises_many_hi bu dr le st tr ro sf level more w hm0 hm1 f e hE hlo.1 hlo.2 he1.1 m L hm hT hh hr3 hlast c9 c6 h2
        · exact rises_many_mid bu dr le st tr ro sf level more w hm0 hm1 f e hE hlo.1 hlo.2 he1.1 m L hm hT hh hr3 hlast c9 c6 (by omega) (by omega) f2 hmono c6b
  · exact rises_pin bu dr le st tr ro sf level more w hm0 hm1 (fun W => list_call bu dr le st tr ro sf true level W)

theorem own : ownKnob Try.prog.godebug = none := by kernel_rfl
theorem laidOut : laidOutB Try.prog = true := by kernel_rfl

set_option maxRecDepth 100000 in
theorem lifted (os : Os) (started : os.Started) (H : Type) (enc : TypeId × Value → H) :
    ReturnsInHanded {} Try.checked os 5 .any (Rows.guideRisesSpec.pre6 enc Try.prog Try.f5 Rows.guideRisesRow.domain false) (Rows.guideRisesSpec.post enc Try.prog Try.f5 false true false false) := by
  refine returnsInHanded_of_change (C := Try.checked) own started (by kernel_rfl) Try.func5
    (ChangeSpec.witness6 (enc := enc) (C := Try.checked) false ⟨#[], #[.agg #[.int .i64 0, .int .i64 0, .int .i64 0, .int .i64 0, .int .i64 0, .bool false, .bool false, .bool false], .int .i64 0, .int .u16 0], []⟩ 8 (by kernel_rfl) (by kernel_rfl) (by kernel_rfl) (by kernel_rfl)) ?_
  intro W base args ds gs before hval0 hW hcnd _
  have hval : ∀ (j : Nat) t v, Try.f5.params[j]? = some t → args[j]? = some v → Value.okWide Try.prog W .any base t v := hval0
  have hW' := hW
  obtain ⟨p, q, hA0, hV, rfl, hfz, hnd⟩ := hW
  have hA : DataW.TrodAll enc Try.prog W 0 (fun _ => true) true Try.f5.params.toList args.toList ds p := hA0
  rw [Try.params5] at hA hval
  obtain ⟨v0, vs0, d0, ds0, p0, q0, hargs, rfl, rfl, h0, r0⟩ := trodAll_cons hA
  obtain ⟨v1, vs1, d1, ds1, p1, q1, rfl, rfl, rfl, h1, r1⟩ := trodAll_cons r0
  obtain ⟨v2, vs2, d2, ds2, p2, q2, rfl, rfl, rfl, h2, r2⟩ := trodAll_cons r1
  obtain ⟨rfl, rfl, rfl⟩ := trodAll_nil r2
  obtain rfl : args = #[v0, v1, v2] := by cases args; simp_all
  obtain ⟨rfl, rfl⟩ := trodVars_none hV
  have k0 := h0
  have lt0 : ∀ x ∈ p0, x.block < W.heap.size := by obtain ⟨m, hm⟩ := k0; exact DataW.trod_lt m _ _ _ hm
  have k1 := h1
  have lt1 : ∀ x ∈ p1, x.block < W.heap.size := by obtain ⟨m, hm⟩ := k1; exact DataW.trod_lt m _ _ _ hm
  have k2 := h2
  have lt2 : ∀ x ∈ p2, x.block < W.heap.size := by obtain ⟨m, hm⟩ := k2; exact DataW.trod_lt m _ _ _ hm
  obtain ⟨a1, rfl, rfl, rfl, w1⟩ := open_int Try.underlying3 (hval 1 3 v1 rfl rfl) h1
  obtain ⟨a2, rfl, rfl, rfl, w2⟩ := open_int Try.underlying37 (hval 2 37 v2 rfl rfl) h2
  obtain ⟨bu, dr, le, st, tr, ro, sf, pi, rfl⟩ := open_conf (by kernel_rfl) (hval 0 23 v0 rfl rfl) h0
  have hm : 0 ≤ a2 ∧ a2 ≤ 65535 := by have h := w2; simp [Lit.wf, IntKind.min, IntKind.max, IntKind.signed, IntKind.bits] at h; omega
  clear hA0 hval0
  refine (walk bu dr le st tr ro sf pi a1 a2 W hm.1 hm.2).mono fun e W' ⟨he, bel⟩ => ?_
  subst he
  exact ⟨_, rfl, _, _, _, [], _, [], hW', trodAll_mk1 (shut_bool Try.underlying4 _), (trodAll_cons_mk (Below.trod laidOut (by kernel_rfl) (of_decide_eq_true (by kernel_rfl)) k0 bel lt0) (trodAll_cons_mk (Below.trod laidOut (by kernel_rfl) (of_decide_eq_true (by kernel_rfl)) k1 bel lt1) (trodAll_cons_mk (Below.trod laidOut (by kernel_rfl) (of_decide_eq_true (by kernel_rfl)) k2 bel lt2) trodAll_mk0))), rfl, bel.frame _, fun h => by cases h⟩

theorem over : Rows.guideRisesRow.holds Try.pinned (OpenSpec.ofChange Rows.guideRisesSpec) :=
  OpenClaim.holds_of_wide 5 Try.f5 rfl rfl rfl rfl rfl rfl rfl ⟨rfl, rfl, rfl, rfl, rfl⟩ rfl rfl rfl rfl rfl (by kernel_rfl) Try.func5 (by kernel_rfl)
    (of_decide_eq_true (by kernel_rfl)) (by unfold Func.isWrapper; first | (rw [if_pos (by decide +kernel)]; kernel_rfl) | (rw [if_neg (by decide +kernel)]; exact ⟨rfl, rfl⟩))
    (fun os started H enc _ => lifted os started H enc)

theorem proved : Rows.GuideRisesSaid := over
#print axioms proved
end Go.Proofs.Ytflicgngejnajaa.guideRisesLaw
