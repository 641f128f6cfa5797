/- WholeShares: any share of any number is what the reference tells, lies between nought and the number, is nought of a number below nought, and is no less for a greater part; the chapter's examples hold. No condition. -/
import Derived.Test.YtimkedfdeghmnaaRows
import Derived.Test.YtimkedfdeghmnaaWholeA
import Derived.Test.YtimkedfdeghmnaaOpen
namespace Go.Proofs.Ytimkedfdeghmnaa.wholeShares
open Go.Proofs.Ytimkedfdeghmnaa Go.ChangeShapes Go.WideShapes Go.ChangeAt Go.RowKit
set_option linter.unusedVariables false

theorem share_bd (n part all : Int) : 0 ≤ share n part all ∧ (0 ≤ n → share n part all ≤ n) ∧ (n < 0 → share n part all = 0) := by
  have hn := clip_bd (n := n) (lo := 0) (hi := 2147483647) (by omega)
  have ha := clip_bd (n := all) (lo := 0) (hi := 2147483647) (by omega)
  have hp := clip_bd (n := part) (lo := 0) (hi := clip all 0 2147483647) (by omega)
  have hc : (0 ≤ n → clip n 0 2147483647 ≤ n) ∧ (n < 0 → clip n 0 2147483647 = 0) := by unfold clip; constructor <;> intro h <;> (repeat' split) <;> omega
  unfold share
  split
  · exact ⟨by omega, fun h => h, fun _ => rfl⟩
  · have h0 : 0 < clip all 0 2147483647 := by omega
    refine ⟨Int.ediv_nonneg (Int.mul_nonneg hn.1 hp.1) ha.1, fun h => ?_, fun h => by rw [hc.2 h]; simp⟩
    have h1 : clip n 0 2147483647 * clip part 0 (clip all 0 2147483647) / clip all 0 2147483647 ≤ clip n 0 2147483647 :=
      Int.ediv_le_of_le_mul h0 (Int.mul_le_mul_of_nonneg_left hp.2 hn.1)
    exact Int.le_trans h1 (hc.1 h)

theorem share_mono (n all : Int) {part more : Int} (h : part ≤ more) : share n part all ≤ share n more all := by
  have hn := clip_bd (n := n) (lo := 0) (hi := 2147483647) (by omega)
  have ha := clip_bd (n := all) (lo := 0) (hi := 2147483647) (by omega)
  have hp : clip part 0 (clip all 0 2147483647) ≤ clip more 0 (clip all 0 2147483647) := by
    generalize clip all 0 2147483647 = c at *
    unfold clip
    (repeat' split) <;> omega
  unfold share
  split
  · exact Int.le_refl _
  · exact Int.ediv_le_ediv (by omega) (Int.mul_le_mul_of_nonneg_left hp hn.1)

theorem walk (n part x y : Int) (w : World) :
    Calls Try.prog 7 #[.int .i64 n, .int .i64 part, .agg #[.int .i64 x, .int .i64 y]] w fun e w' => e = .returned (.bool true) ∧ Below w.heap.size w w' := by
  obtain ⟨s0, s1, s2⟩ := share_bd n part x
  have sm := @share_mono n x part y
  by_cases hn : 0 ≤ n
  · replace s1 := s1 hn
    clear s2
    have hn2 : ¬ n < 0 := by omega
    by_cases hp : part ≤ y
    · replace sm := sm hp
      go_enter Try.func7, Try.ntmps7
      go_wp2_with fail
      go_quiet (fail)
      go_wp2_with fail
      refine (share_call _ _ _ _).mono ?_
      rintro e w' ⟨rfl, rfl⟩
      go_wp2_with fail
      refine (share_call _ _ _ _).mono ?_
      rintro e w' ⟨rfl, rfl⟩
      go_wp2_with fail
      refine (refShare_call _ _ _ _).mono ?_
      rintro e w' ⟨rfl, rfl⟩
      go_wp2_with fail
      refine (lives_call _).mono ?_
      rintro e w' ⟨rfl, rfl⟩
      go_wp2
      go_ret
      exact ⟨rfl, below_drewN (below_alloc (Below.refl _ _) _) _⟩
    · clear sm
      have hp2 : y < part := by omega
      go_enter Try.func7, Try.ntmps7
      go_wp2_with fail
      go_quiet (fail)
      go_wp2_with fail
      refine (share_call _ _ _ _).mono ?_
      rintro e w' ⟨rfl, rfl⟩
      go_wp2_with fail
      refine (share_call _ _ _ _).mono ?_
      rintro e w' ⟨rfl, rfl⟩
      go_wp2_with fail
      refine (refShare_call _ _ _ _).mono ?_
      rintro e w' ⟨rfl, rfl⟩
      go_wp2_with fail
      refine (lives_call _).mono ?_
      rintro e w' ⟨rfl, rfl⟩
      go_wp2
      go_ret
      exact ⟨rfl, below_drewN (below_alloc (Below.refl _ _) _) _⟩
  · clear s1
    have hn2 : n < 0 := by omega
    have s3 : (share n part x == 0) = true := by rw [s2 hn2]; rfl
    have s4 : (share n part x != 0) = false := by rw [s2 hn2]; rfl
    clear s2
    by_cases hp : part ≤ y
    · replace sm := sm hp
      go_enter Try.func7, Try.ntmps7
      go_wp2_with fail
      go_quiet (fail)
      go_wp2_with fail
      refine (share_call _ _ _ _).mono ?_
      rintro e w' ⟨rfl, rfl⟩
      go_wp2_with fail
      refine (share_call _ _ _ _).mono ?_
      rintro e w' ⟨rfl, rfl⟩
      go_wp2_with fail
      refine (refShare_call _ _ _ _).mono ?_
      rintro e w' ⟨rfl, rfl⟩
      go_wp2_with fail
      refine (lives_call _).mono ?_
      rintro e w' ⟨rfl, rfl⟩
      go_wp2
      go_ret
      exact ⟨rfl, below_drewN (below_alloc (Below.refl _ _) _) _⟩
    · clear sm
      have hp2 : y < part := by omega
      go_enter Try.func7, Try.ntmps7
      go_wp2_with fail
      go_quiet (fail)
      go_wp2_with fail
      refine (share_call _ _ _ _).mono ?_
      rintro e w' ⟨rfl, rfl⟩
      go_wp2_with fail
      refine (share_call _ _ _ _).mono ?_
      rintro e w' ⟨rfl, rfl⟩
      go_wp2_with fail
      refine (refShare_call _ _ _ _).mono ?_
      rintro e w' ⟨rfl, rfl⟩
      go_wp2_with fail
      refine (lives_call _).mono ?_
      rintro e w' ⟨rfl, rfl⟩
      go_wp2
      go_ret
      exact ⟨rfl, below_drewN (below_alloc (Below.refl _ _) _) _⟩

theorem own : ownKnob Try.prog.godebug = none := by kernel_rfl
theorem laidOut : laidOutB Try.prog = true := by kernel_rfl

set_option maxRecDepth 100000 in
theorem lifted (os : Os) (started : os.Started) (H : Type) (enc : TypeId × Value → H) :
    ReturnsInHanded {} Try.checked os 7 .any (Rows.wholeSharesSpec.pre6 enc Try.prog Try.f7 Rows.wholeSharesRow.domain false) (Rows.wholeSharesSpec.post enc Try.prog Try.f7 false true false false) := by
  refine returnsInHanded_of_change (C := Try.checked) own started (by kernel_rfl) Try.func7
    (ChangeSpec.witness6 (enc := enc) (C := Try.checked) false ⟨#[], #[.int .i64 0, .int .i64 0, .agg #[.int .i64 0, .int .i64 0]], []⟩ 8 (by kernel_rfl) (by kernel_rfl) (by kernel_rfl) (by kernel_rfl)) ?_
  intro W base args ds gs before hval0 hW hcnd _
  have hval : ∀ (j : Nat) t v, Try.f7.params[j]? = some t → args[j]? = some v → Value.okWide Try.prog W .any base t v := hval0
  have hW' := hW
  obtain ⟨p, q, hA0, hV, rfl, hfz, hnd⟩ := hW
  have hA : DataW.TrodAll enc Try.prog W 0 (fun _ => true) true Try.f7.params.toList args.toList ds p := hA0
  rw [Try.params7] at hA hval
  obtain ⟨v0, vs0, d0, ds0, p0, q0, hargs, rfl, rfl, h0, r0⟩ := trodAll_cons hA
  obtain ⟨v1, vs1, d1, ds1, p1, q1, rfl, rfl, rfl, h1, r1⟩ := trodAll_cons r0
  obtain ⟨v2, vs2, d2, ds2, p2, q2, rfl, rfl, rfl, h2, r2⟩ := trodAll_cons r1
  obtain ⟨rfl, rfl, rfl⟩ := trodAll_nil r2
  obtain rfl : args = #[v0, v1, v2] := by cases args; simp_all
  obtain ⟨rfl, rfl⟩ := trodVars_none hV
  have k0 := h0
  have lt0 : ∀ x ∈ p0, x.block < W.heap.size := by obtain ⟨m, hm⟩ := k0; exact DataW.trod_lt m _ _ _ hm
  have k1 := h1
  have lt1 : ∀ x ∈ p1, x.block < W.heap.size := by obtain ⟨m, hm⟩ := k1; exact DataW.trod_lt m _ _ _ hm
  have k2 := h2
  have lt2 : ∀ x ∈ p2, x.block < W.heap.size := by obtain ⟨m, hm⟩ := k2; exact DataW.trod_lt m _ _ _ hm
  obtain ⟨a0, rfl, rfl, rfl, w0⟩ := open_int Try.underlying3 (hval 0 3 v0 rfl rfl) h0
  obtain ⟨a1, rfl, rfl, rfl, w1⟩ := open_int Try.underlying3 (hval 1 3 v1 rfl rfl) h1
  obtain ⟨a2, l2, rfl, w2⟩ := open_nums Try.underlying24 Try.underlying3 (by kernel_rfl) (by kernel_rfl) (hval 2 24 v2 rfl rfl) h2
  obtain ⟨x, y, rfl⟩ := pair_of l2
  clear hA0 hval0
  refine (walk a0 a1 x y W).mono fun e W' ⟨he, bel⟩ => ?_
  subst he
  exact ⟨_, rfl, _, _, _, [], _, [], hW', trodAll_mk1 (shut_bool Try.underlying4 _), (trodAll_cons_mk (Below.trod laidOut (by kernel_rfl) (of_decide_eq_true (by kernel_rfl)) k0 bel lt0) (trodAll_cons_mk (Below.trod laidOut (by kernel_rfl) (of_decide_eq_true (by kernel_rfl)) k1 bel lt1) (trodAll_cons_mk (Below.trod laidOut (by kernel_rfl) (of_decide_eq_true (by kernel_rfl)) k2 bel lt2) trodAll_mk0))), rfl, bel.frame _, fun h => by cases h⟩

theorem over : Rows.wholeSharesRow.holds Try.pinned (OpenSpec.ofChange Rows.wholeSharesSpec) :=
  OpenClaim.holds_of_wide 7 Try.f7 rfl rfl rfl rfl rfl rfl rfl ⟨rfl, rfl, rfl, rfl, rfl⟩ rfl rfl rfl rfl rfl (by kernel_rfl) Try.func7 (by kernel_rfl)
    (of_decide_eq_true (by kernel_rfl)) (by unfold Func.isWrapper; first | (rw [if_pos (by decide +kernel)]; kernel_rfl) | (rw [if_neg (by decide +kernel)]; exact ⟨rfl, rfl⟩))
    (fun os started H enc _ => lifted os started H enc)

theorem proved : Rows.WholeSharesSaid := over
#print axioms proved
end Go.Proofs.Ytimkedfdeghmnaa.wholeShares
