/- MedianFirst: for any row of up to 500 vectors and any width of 1 to 32 the program foretells in a first line the vector to the left, and behind like vectors that very one, but at a line's ends; the chapter's examples hold. No condition beyond the statement's own. -/
import Derived.Test.YtimkedfdeghmnaaRows
import Derived.Test.YtimkedfdeghmnaaMedFirst
import Derived.Test.YtimkedfdeghmnaaMedOpen
namespace Go.Proofs.Ytimkedfdeghmnaa.medianFirstLaw
open Go.Proofs.Ytimkedfdeghmnaa Go.ChangeShapes Go.WideShapes Go.ChangeAt Go.RowKit
set_option linter.unusedVariables false
attribute [local go_sem] setCell_drewN alloc_drewN run_eq_vec

theorem walk_long (a : Option Addr) (n cap : Nat) (x y vx vy : Int) (w : World) (hl : 500 < (n : Int)) :
    Calls Try.prog 4 #[.slice a n cap, vecV x y, vecV vx vy] w fun e w' => e = .returned (.bool true) ∧ Below w.heap.size w w' := by
  go_enter Try.func4, Try.ntmps4
  go_wp2_with fail
  refine (lives19_call _).mono ?_
  rintro e w1 ⟨rfl, hb⟩
  have HB := hide ((below_alloc (below_alloc (Below.refl w.heap.size w) _) _).trans (hb.mono (by simp; omega)))
  clear hb
  go_wp2_with fail
  go_ret
  exact ⟨rfl, HB.out⟩

theorem walk (a : Option Addr) (l : List (Int × Int)) (cap : Nat) (x y vx vy : Int) (w : World) (hp : IsPairs w a l) :
    Calls Try.prog 4 #[.slice a l.length cap, vecV x y, vecV vx vy] w fun e w' => e = .returned (.bool true) ∧ Below w.heap.size w w' := by
  by_cases hl : 500 < (l.length : Int)
  · exact walk_long a l.length cap x y vx vy w hl
  · have hn : l.length ≤ 500 := by omega
    obtain ⟨r, hr⟩ : ∃ r : Nat, x % 32 = (r : Int) := ⟨(x % 32).toNat, by omega⟩
    have hx : bits .and .i64 x 31 = (r : Int) := by rw [and31, hr]
    have hr1 : r ≤ 31 := by omega
    have em : 1 + (r : Int) = ((r + 1 : Nat) : Int) := by omega
    have e1 : ((l.length : Int) % (1 + (r : Int))) = ((l.length % (r + 1) : Nat) : Int) := by rw [em]; omega
    have htop := medianOf_top l (r + 1) (by omega)
    rw [← em] at htop
    have c1 : ∀ W, Below w.heap.size w W → Calls Try.prog 10 #[.slice a l.length cap, .int .i64 (1 + (r : Int)), .int .i64 ((l.length : Int) / (1 + (r : Int)))] W fun e w' =>
        e = .returned (vecP (if 0 < l.length % (r + 1) then vat l (l.length - 1) else (0, 0))) ∧ Below W.heap.size W w' := by
      intro W hb
      rw [← htop]
      exact of_call a l cap _ _ W (hp.below hb) hn
    by_cases hcol : 0 < l.length % (r + 1)
    · rw [if_pos hcol] at c1
      have hpos : 0 < l.length := by
        rcases Nat.eq_zero_or_pos l.length with h | h
        · rw [h, Nat.zero_mod] at hcol; omega
        · exact h
      obtain ⟨b, off, rfl, hb, hcell⟩ := hp (by intro h; rw [h] at hpos; simp at hpos)
      obtain ⟨g0, g1⟩ := hcell (l.length - 1) (by omega)
      have hlt := Nat.mod_lt l.length (show 0 < r + 1 by omega)
      by_cases hmid : l.length % (r + 1) < r
      · refine first_mid b off l.length cap x y vx vy _ _ r w hn hr1 hx hb (by rw [e1]; omega) (by omega) g0 g1 ?_ (by rw [e1]; omega) c1
        intro W0 base v hown W hW
        have h := same_call hown hn (1 + (r : Int)) y W hW
        rw [em, medianOf_same (vx, vy) l.length (r + 1) y (by omega) hcol (by omega), ← em] at h
        exact h
      · exact first_last b off l.length cap x y vx vy _ _ r w hn hr1 hx hb (by rw [e1]; omega) (by omega) g0 g1 (by rw [e1]; omega) c1
    · rw [if_neg hcol] at c1
      exact first_edge a l.length cap x y vx vy r w hn hr1 hx (by rw [e1]; omega) c1

theorem own : ownKnob Try.prog.godebug = none := by kernel_rfl
theorem laidOut : laidOutB Try.prog = true := by kernel_rfl

set_option maxRecDepth 100000 in
theorem lifted (os : Os) (started : os.Started) (H : Type) (enc : TypeId × Value → H) :
    ReturnsInHanded {} Try.checked os 4 .any (Rows.medianFirstSpec.pre6 enc Try.prog Try.f4 Rows.medianFirstRow.domain false) (Rows.medianFirstSpec.post enc Try.prog Try.f4 false true false false) := by
  refine returnsInHanded_of_change (C := Try.checked) own started (by kernel_rfl) Try.func4
    (ChangeSpec.witness6 (enc := enc) (C := Try.checked) false ⟨#[], #[.slice none 0 0, .agg #[.int .i64 0, .int .i64 0], .agg #[.int .i64 0, .int .i64 0]], []⟩ 8 (by kernel_rfl) (by kernel_rfl) (by kernel_rfl) (by kernel_rfl)) ?_
  intro W base args ds gs before hval0 hW hcnd _
  have hval : ∀ (j : Nat) t v, Try.f4.params[j]? = some t → args[j]? = some v → Value.okWide Try.prog W .any base t v := hval0
  have hW' := hW
  obtain ⟨p, q, hA0, hV, rfl, hfz, hnd⟩ := hW
  have hA : DataW.TrodAll enc Try.prog W 0 (fun _ => true) true Try.f4.params.toList args.toList ds p := hA0
  rw [Try.params4] at hA hval
  obtain ⟨v0, vs0, d0, ds0, p0, q0, hargs, rfl, rfl, h0, r0⟩ := trodAll_cons hA
  obtain ⟨v1, vs1, d1, ds1, p1, q1, rfl, rfl, rfl, h1, r1⟩ := trodAll_cons r0
  obtain ⟨v2, vs2, d2, ds2, p2, q2, rfl, rfl, rfl, h2, r2⟩ := trodAll_cons r1
  obtain ⟨rfl, rfl, rfl⟩ := trodAll_nil r2
  obtain rfl : args = #[v0, v1, v2] := by cases args; simp_all
  obtain ⟨rfl, rfl⟩ := trodVars_none hV
  have k0 := h0
  have lt0 : ∀ x ∈ p0, x.block < W.heap.size := by obtain ⟨m, hm⟩ := k0; exact DataW.trod_lt m _ _ _ hm
  have k1 := h1
  have lt1 : ∀ x ∈ p1, x.block < W.heap.size := by obtain ⟨m, hm⟩ := k1; exact DataW.trod_lt m _ _ _ hm
  have k2 := h2
  have lt2 : ∀ x ∈ p2, x.block < W.heap.size := by obtain ⟨m, hm⟩ := k2; exact DataW.trod_lt m _ _ _ hm
  obtain ⟨a1, l1, rfl, w1⟩ := open_nums Try.underlying24 Try.underlying3 (by kernel_rfl) (by kernel_rfl) (hval 1 24 v1 rfl rfl) h1
  obtain ⟨a2, l2, rfl, w2⟩ := open_nums Try.underlying24 Try.underlying3 (by kernel_rfl) (by kernel_rfl) (hval 2 24 v2 rfl rfl) h2
  obtain ⟨b0, len0, cap0, rfl⟩ := okWide_slice Try.underlying22 (hval 0 22 v0 rfl rfl)
  obtain ⟨l, rfl, hl⟩ := open_pairs Try.underlying22 Try.underlying24 Try.underlying3 (by kernel_rfl) (by kernel_rfl) k0
  obtain ⟨x, y, rfl⟩ := pair_of l1
  obtain ⟨vx, vy, rfl⟩ := pair_of l2
  clear hA0 hval0
  refine (walk b0 l cap0 x y vx vy W hl).mono fun e W' ⟨he, bel⟩ => ?_
  subst he
  exact ⟨_, rfl, _, _, _, [], _, [], hW', trodAll_mk1 (shut_bool Try.underlying4 _), (trodAll_cons_mk (Below.trod laidOut (by kernel_rfl) (of_decide_eq_true (by kernel_rfl)) k0 bel lt0) (trodAll_cons_mk (Below.trod laidOut (by kernel_rfl) (of_decide_eq_true (by kernel_rfl)) k1 bel lt1) (trodAll_cons_mk (Below.trod laidOut (by kernel_rfl) (of_decide_eq_true (by kernel_rfl)) k2 bel lt2) trodAll_mk0))), rfl, bel.frame _, fun h => by cases h⟩

theorem over : Rows.medianFirstRow.holds Try.pinned (OpenSpec.ofChange Rows.medianFirstSpec) :=
  OpenClaim.holds_of_wide 4 Try.f4 rfl rfl rfl rfl rfl rfl rfl ⟨rfl, rfl, rfl, rfl, rfl⟩ rfl rfl rfl rfl rfl (by kernel_rfl) Try.func4 (by kernel_rfl)
    (of_decide_eq_true (by kernel_rfl)) (by unfold Func.isWrapper; first | (rw [if_pos (by decide +kernel)]; kernel_rfl) | (rw [if_neg (by decide +kernel)]; exact ⟨rfl, rfl⟩))
    (fun os started H enc _ => lifted os started H enc)

theorem proved : Rows.MedianFirstSaid := over
#print axioms proved
end Go.Proofs.Ytimkedfdeghmnaa.medianFirstLaw
