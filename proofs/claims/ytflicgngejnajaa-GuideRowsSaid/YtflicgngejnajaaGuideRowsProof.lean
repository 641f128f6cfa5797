/- GuideRows: for any sheet of up to 200 cells, any Conf and any floor, the program's counts of events and its rows' floors are those of its reference; the chapter's examples hold. No condition beyond the statement's own. -/
import Derived.Test.YtflicgngejnajaaRows
import Derived.Test.YtflicgngejnajaaSheetD
import Derived.Test.YtflicgngejnajaaSheetF
import Derived.Test.YtflicgngejnajaaSheetOpen
import Derived.Test.YtflicgngejnajaaGuideF
namespace Go.Proofs.Ytflicgngejnajaa.guideRowsLaw
open Go.Proofs.Ytflicgngejnajaa Go.ChangeShapes Go.WideShapes Go.ChangeAt Go.RowKit
set_option linter.unusedVariables false
set_option linter.unusedSimpArgs false
attribute [local go_sem] setCell_drewN alloc_drewN
attribute [local irreducible] wpList

theorem keepS {b b2 : Nat} {W W' : World} {ra : Option Addr} {R : List RowD} {v0 v1 v2 v3 v4 v5 v6 v7 u0 u1 u2 u3 u4 u5 u6 u7 : Value} (hb : Below W.heap.size W W') (h : IsRows W ra R ∧ W.cell? ⟨b, 0, none⟩ = some (v0) ∧ W.cell? ⟨b, 1, none⟩ = some (v1) ∧ W.cell? ⟨b, 2, none⟩ = some (v2) ∧ W.cell? ⟨b, 3, none⟩ = some (v3) ∧ W.cell? ⟨b, 4, none⟩ = some (v4) ∧ W.cell? ⟨b, 5, none⟩ = some (v5) ∧ W.cell? ⟨b, 6, none⟩ = some (v6) ∧ W.cell? ⟨b, 7, none⟩ = some (v7) ∧ W.cell? ⟨b2, 0, none⟩ = some (u0) ∧ W.cell? ⟨b2, 1, none⟩ = some (u1) ∧ W.cell? ⟨b2, 2, none⟩ = some (u2) ∧ W.cell? ⟨b2, 3, none⟩ = some (u3) ∧ W.cell? ⟨b2, 4, none⟩ = some (u4) ∧ W.cell? ⟨b2, 5, none⟩ = some (u5) ∧ W.cell? ⟨b2, 6, none⟩ = some (u6) ∧ W.cell? ⟨b2, 7, none⟩ = some (u7) ∧ b < W.heap.size ∧ b2 < W.heap.size) : IsRows W' ra R ∧ W'.cell? ⟨b, 0, none⟩ = some (v0) ∧ W'.cell? ⟨b, 1, none⟩ = some (v1) ∧ W'.cell? ⟨b, 2, none⟩ = some (v2) ∧ W'.cell? ⟨b, 3, none⟩ = some (v3) ∧ W'.cell? ⟨b, 4, none⟩ = some (v4) ∧ W'.cell? ⟨b, 5, none⟩ = some (v5) ∧ W'.cell? ⟨b, 6, none⟩ = some (v6) ∧ W'.cell? ⟨b, 7, none⟩ = some (v7) ∧ W'.cell? ⟨b2, 0, none⟩ = some (u0) ∧ W'.cell? ⟨b2, 1, none⟩ = some (u1) ∧ W'.cell? ⟨b2, 2, none⟩ = some (u2) ∧ W'.cell? ⟨b2, 3, none⟩ = some (u3) ∧ W'.cell? ⟨b2, 4, none⟩ = some (u4) ∧ W'.cell? ⟨b2, 5, none⟩ = some (u5) ∧ W'.cell? ⟨b2, 6, none⟩ = some (u6) ∧ W'.cell? ⟨b2, 7, none⟩ = some (u7) ∧ b < W'.heap.size ∧ b2 < W'.heap.size := by
  obtain ⟨h, x0, x1, x2, x3, x4, x5, x6, x7, y0, y1, y2, y3, y4, y5, y6, y7, l1, l2⟩ := h
  exact ⟨h.below hb, by rw [hb.cell (p := ⟨b, _, none⟩) l1]; exact x0, by rw [hb.cell (p := ⟨b, _, none⟩) l1]; exact x1, by rw [hb.cell (p := ⟨b, _, none⟩) l1]; exact x2, by rw [hb.cell (p := ⟨b, _, none⟩) l1]; exact x3, by rw [hb.cell (p := ⟨b, _, none⟩) l1]; exact x4, by rw [hb.cell (p := ⟨b, _, none⟩) l1]; exact x5, by rw [hb.cell (p := ⟨b, _, none⟩) l1]; exact x6, by rw [hb.cell (p := ⟨b, _, none⟩) l1]; exact x7, by rw [hb.cell (p := ⟨b2, _, none⟩) l2]; exact y0, by rw [hb.cell (p := ⟨b2, _, none⟩) l2]; exact y1, by rw [hb.cell (p := ⟨b2, _, none⟩) l2]; exact y2, by rw [hb.cell (p := ⟨b2, _, none⟩) l2]; exact y3, by rw [hb.cell (p := ⟨b2, _, none⟩) l2]; exact y4, by rw [hb.cell (p := ⟨b2, _, none⟩) l2]; exact y5, by rw [hb.cell (p := ⟨b2, _, none⟩) l2]; exact y6, by rw [hb.cell (p := ⟨b2, _, none⟩) l2]; exact y7, Nat.lt_of_lt_of_le l1 hb.size, Nat.lt_of_lt_of_le l2 hb.size⟩

theorem rowsS {b b2 : Nat} {W : World} {ra : Option Addr} {R : List RowD} {v0 v1 v2 v3 v4 v5 v6 v7 u0 u1 u2 u3 u4 u5 u6 u7 : Value} (h : IsRows W ra R ∧ W.cell? ⟨b, 0, none⟩ = some (v0) ∧ W.cell? ⟨b, 1, none⟩ = some (v1) ∧ W.cell? ⟨b, 2, none⟩ = some (v2) ∧ W.cell? ⟨b, 3, none⟩ = some (v3) ∧ W.cell? ⟨b, 4, none⟩ = some (v4) ∧ W.cell? ⟨b, 5, none⟩ = some (v5) ∧ W.cell? ⟨b, 6, none⟩ = some (v6) ∧ W.cell? ⟨b, 7, none⟩ = some (v7) ∧ W.cell? ⟨b2, 0, none⟩ = some (u0) ∧ W.cell? ⟨b2, 1, none⟩ = some (u1) ∧ W.cell? ⟨b2, 2, none⟩ = some (u2) ∧ W.cell? ⟨b2, 3, none⟩ = some (u3) ∧ W.cell? ⟨b2, 4, none⟩ = some (u4) ∧ W.cell? ⟨b2, 5, none⟩ = some (u5) ∧ W.cell? ⟨b2, 6, none⟩ = some (u6) ∧ W.cell? ⟨b2, 7, none⟩ = some (u7) ∧ b < W.heap.size ∧ b2 < W.heap.size) : IsRows W ra R := h.1

set_option maxHeartbeats 4000000 in
set_option maxRecDepth 100000 in
theorem walk (bu dr le st tr : Int) (ro sf pi : Bool) (rf fl fm : Int) (int : Bool) (q : Int) (sa : Option Addr) (sn sc : Nat) (ra : Option Addr) (rc : Nat) (z : Int) (R : List RowD) (floor : Int) (w : World) (hR : IsRows w ra R) :
    Calls Try.prog 4 #[confV bu dr le st tr ro sf pi, sheetV rf fl fm int q sa sn sc ra R.length rc z, .int .i64 floor] w fun e w' => e = .returned (.bool true) ∧ Below w.heap.size w w' := by
  have c12 := hide (fun W (h : Below w.heap.size w W) => light_call rf fl fm int q sa sn sc ra rc z R W (hR.below h))
  have c13 := hide (fun (hB : Bnd R) W (h : IsRows W ra R) => events_call rf fl fm int q sa sn sc ra rc z R W h hB)
  have c14 := hide (fun (hB : Bnd R) W (h : IsRows W ra R) => refEvents_call rf fl fm int q sa sn sc ra rc z R W h hB)
  have c15 := hide (fun (hB : Bnd R) W (h : IsRows W ra R) => rows_call bu dr le st tr ro sf pi rf fl fm int q sa sn sc ra rc z floor R W h hB)
  have c16 := hide (fun (hB : Bnd R) W (h : IsRows W ra R) => refRows_call bu dr le st tr ro sf pi rf fl fm int q sa sn sc ra rc z floor R W h hB)
  have hla : (R.map fun r => (r.sum : Int)).length = R.length := by simp
  have hlb : ((R.map fun r => (r.sum : Int)).map (grow1 ro pi (clip floor 1 31) ((R.map fun r => (r.sum : Int)).sum / (R.length : Int)))).length = R.length := by simp
  generalize ((R.map fun r => (r.sum : Int)).map (grow1 ro pi (clip floor 1 31) ((R.map fun r => (r.sum : Int)).sum / (R.length : Int)))) = B at c15 c16 hlb
  generalize (R.map fun r => (r.sum : Int)) = A at c13 c14 hla
  have HLA := hide hla
  have HLB := hide hlb
  have HR := hide hR
  clear hla hlb hR
  go_enter Try.func4, Try.ntmps4
  go_wp2_with fail
  refine (c12.out _ (below_alloc (below_alloc (Below.refl _ _) _) _)).mono ?_
  rintro e w1 ⟨bl, rfl, hl, hb⟩
  have HL := hide hl
  clear hl
  have BB := hide ((below_alloc (below_alloc (Below.refl w.heap.size w) (.cells #[.int .i64 bu, .int .i64 dr, .int .i64 le, .int .i64 st, .int .i64 tr, .bool ro, .bool sf, .bool pi] 23)) (.cells #[.int .i64 rf, .int .i64 fl, .int .i64 fm, .bool int, .int .i64 q, .slice sa sn sc, .slice ra R.length rc, .int .i64 z] 32)).trans (hb.mono (by simp; omega)))
  have HS : IsRows w1 ra R ∧ w1.cell? ⟨w.heap.size, 0, none⟩ = some (.int .i64 bu) ∧ w1.cell? ⟨w.heap.size, 1, none⟩ = some (.int .i64 dr) ∧ w1.cell? ⟨w.heap.size, 2, none⟩ = some (.int .i64 le) ∧ w1.cell? ⟨w.heap.size, 3, none⟩ = some (.int .i64 st) ∧ w1.cell? ⟨w.heap.size, 4, none⟩ = some (.int .i64 tr) ∧ w1.cell? ⟨w.heap.size, 5, none⟩ = some (.bool ro) ∧ w1.cell? ⟨w.heap.size, 6, none⟩ = some (.bool sf) ∧ w1.cell? ⟨w.heap.size, 7, none⟩ = some (.bool pi) ∧ w1.cell? ⟨w.heap.size + 1, 0, none⟩ = some (.int .i64 rf) ∧ w1.cell? ⟨w.heap.size + 1, 1, none⟩ = some (.int .i64 fl) ∧ w1.cell? ⟨w.heap.size + 1, 2, none⟩ = some (.int .i64 fm) ∧ w1.cell? ⟨w.heap.size + 1, 3, none⟩ = some (.bool int) ∧ w1.cell? ⟨w.heap.size + 1, 4, none⟩ = some (.int .i64 q) ∧ w1.cell? ⟨w.heap.size + 1, 5, none⟩ = some (.slice sa sn sc) ∧ w1.cell? ⟨w.heap.size + 1, 6, none⟩ = some (.slice ra R.length rc) ∧ w1.cell? ⟨w.heap.size + 1, 7, none⟩ = some (.int .i64 z) ∧ w.heap.size < w1.heap.size ∧ w.heap.size + 1 < w1.heap.size := by
    refine ⟨HR.out.below BB.out, ?_, ?_, ?_, ?_, ?_, ?_, ?_, ?_, ?_, ?_, ?_, ?_, ?_, ?_, ?_, ?_, ?_, ?_⟩
    all_goals first
      | (rw [hb.cell (by simp; omega)]; simp [go_sem]; done)
      | (rw [hb.cell (by simp)]; simp [go_sem]; done)
      | (have := hb.size; simp at this; omega)
  clear hb
  cases bl
  · go_wp2_with fail
    refine (lives42_call _).mono ?_
    rintro e w2 ⟨rfl, hb2⟩
    have BE := hide (bstep BB.out hb2)
    clear hb2
    go_wp2
    go_ret
    exact ⟨rfl, BE.out⟩
  · have hB : Bnd R := HL.out rfl
    have C13 := hide (c13.out hB)
    have C14 := hide (c14.out hB)
    have C15 := hide (c15.out hB)
    have C16 := hide (c16.out hB)
    have hA0 : A.length ≤ 1000000 := by rw [HLA.out]; have := hB.1; omega
    have hB0 : B.length ≤ 1000000 := by rw [HLB.out]; have := hB.1; omega
    have HA0 := hide hA0
    have HB0 := hide hB0
    clear hA0 hB0 hB c12 c13 c14 c15 c16
    go_wp2_with fail
    go_region_held3 (fun W' => IsRows W' ra R ∧ W'.cell? ⟨w.heap.size, 0, none⟩ = some (.int .i64 bu) ∧ W'.cell? ⟨w.heap.size, 1, none⟩ = some (.int .i64 dr) ∧ W'.cell? ⟨w.heap.size, 2, none⟩ = some (.int .i64 le) ∧ W'.cell? ⟨w.heap.size, 3, none⟩ = some (.int .i64 st) ∧ W'.cell? ⟨w.heap.size, 4, none⟩ = some (.int .i64 tr) ∧ W'.cell? ⟨w.heap.size, 5, none⟩ = some (.bool ro) ∧ W'.cell? ⟨w.heap.size, 6, none⟩ = some (.bool sf) ∧ W'.cell? ⟨w.heap.size, 7, none⟩ = some (.bool pi) ∧ W'.cell? ⟨w.heap.size + 1, 0, none⟩ = some (.int .i64 rf) ∧ W'.cell? ⟨w.heap.size + 1, 1, none⟩ = some (.int .i64 fl) ∧ W'.cell? ⟨w.heap.size + 1, 2, none⟩ = some (.int .i64 fm) ∧ W'.cell? ⟨w.heap.size + 1, 3, none⟩ = some (.bool int) ∧ W'.cell? ⟨w.heap.size + 1, 4, none⟩ = some (.int .i64 q) ∧ W'.cell? ⟨w.heap.size + 1, 5, none⟩ = some (.slice sa sn sc) ∧ W'.cell? ⟨w.heap.size + 1, 6, none⟩ = some (.slice ra R.length rc) ∧ W'.cell? ⟨w.heap.size + 1, 7, none⟩ = some (.int .i64 z) ∧ w.heap.size < W'.heap.size ∧ w.heap.size + 1 < W'.heap.size)
      (first | (refine keepS ?_ ‹_›; assumption) | (refine keepS (below_alloc (Below.refl _ _) _) ‹_›) | (refine keepS ((Below.refl _ _).drew) ‹_›))
      (first | (go_at_call 13; (with_reducible refine (C13.out _ ?_).mono ?_); exact rowsS ‹_›; rintro e w2 ⟨v2, rfl, hi2, hb2⟩) | (go_at_call 14; (with_reducible refine (C14.out _ ?_).mono ?_); exact rowsS ‹_›; rintro e w3 ⟨v3, rfl, hi3, hb3⟩) | (go_at_call 8; (with_reducible refine (same_call _ _ A _ ?_ ?_ HA0.out).mono ?_); exact hi2.below hb3; exact hi3; rintro e w4 ⟨rfl, hb4⟩) | (go_at_call 15; (with_reducible refine (C15.out _ ?_).mono ?_); exact rowsS ‹_›; rintro e w5 ⟨v5, rfl, hi5, hb5⟩) | (go_at_call 16; (with_reducible refine (C16.out _ ?_).mono ?_); exact rowsS ‹_›; rintro e w6 ⟨v6, rfl, hi6, hb6⟩) | (go_at_call 8; (with_reducible refine (same_call _ _ B _ ?_ ?_ HB0.out).mono ?_); exact hi5.below hb6; exact hi6; rintro e w7 ⟨rfl, hb7⟩) | (go_at_call 11; (with_reducible refine (lives42_call _).mono ?_); rintro e w8 ⟨rfl, hb8⟩))
    all_goals
      have BZ : Below w.heap.size w w8 := bstep (bstep (bstep (bstep (bstep (bstep (bstep BB.out.drew hb2) hb3) hb4) hb5) hb6) hb7) hb8
      have BE := hide BZ
      clear BZ hb2 hb3 hb4 hb5 hb6 hb7 hb8 hi2 hi3 hi5 hi6 HS BB
      go_wp2
      go_ret
      exact ⟨rfl, BE.out⟩

theorem own : ownKnob Try.prog.godebug = none := by kernel_rfl
theorem laidOut : laidOutB Try.prog = true := by kernel_rfl

set_option maxRecDepth 100000 in
theorem lifted (os : Os) (started : os.Started) (H : Type) (enc : TypeId × Value → H) :
    ReturnsInHanded {} Try.checked os 4 .any (Rows.guideRowsSpec.pre6 enc Try.prog Try.f4 Rows.guideRowsRow.domain false) (Rows.guideRowsSpec.post enc Try.prog Try.f4 false true false false) := by
  refine returnsInHanded_of_change (C := Try.checked) own started (by kernel_rfl) Try.func4
    (ChangeSpec.witness6 (enc := enc) (C := Try.checked) false ⟨#[], #[.agg #[.int .i64 0, .int .i64 0, .int .i64 0, .int .i64 0, .int .i64 0, .bool false, .bool false, .bool false], .agg #[.int .i64 0, .int .i64 0, .int .i64 0, .bool false, .int .i64 0, .slice none 0 0, .slice none 0 0, .int .i64 0], .int .i64 0], []⟩ 8 (by kernel_rfl) (by kernel_rfl) (by kernel_rfl) (by kernel_rfl)) ?_
  intro W base args ds gs before hval0 hW hcnd _
  have hval : ∀ (j : Nat) t v, Try.f4.params[j]? = some t → args[j]? = some v → Value.okWide Try.prog W .any base t v := hval0
  have hW' := hW
  obtain ⟨p, q, hA0, hV, rfl, hfz, hnd⟩ := hW
  have hA : DataW.TrodAll enc Try.prog W 0 (fun _ => true) true Try.f4.params.toList args.toList ds p := hA0
  rw [Try.params4] at hA hval
  obtain ⟨v0, vs0, d0, ds0, p0, q0, hargs, rfl, rfl, h0, r0⟩ := trodAll_cons hA
  obtain ⟨v1, vs1, d1, ds1, p1, q1, rfl, rfl, rfl, h1, r1⟩ := trodAll_cons r0
  obtain ⟨v2, vs2, d2, ds2, p2, q2, rfl, rfl, rfl, h2, r2⟩ := trodAll_cons r1
  obtain ⟨rfl, rfl, rfl⟩ := trodAll_nil r2
  obtain rfl : args = #[v0, v1, v2] := by cases args; simp_all
  obtain ⟨rfl, rfl⟩ := trodVars_none hV
  have k0 := h0
  have lt0 : ∀ x ∈ p0, x.block < W.heap.size := by obtain ⟨m, hm⟩ := k0; exact DataW.trod_lt m _ _ _ hm
  have k1 := h1
  have lt1 : ∀ x ∈ p1, x.block < W.heap.size := by obtain ⟨m, hm⟩ := k1; exact DataW.trod_lt m _ _ _ hm
  have k2 := h2
  have lt2 : ∀ x ∈ p2, x.block < W.heap.size := by obtain ⟨m, hm⟩ := k2; exact DataW.trod_lt m _ _ _ hm
  obtain ⟨a2, rfl, rfl, rfl, w2⟩ := open_int Try.underlying3 (hval 2 3 v2 rfl rfl) h2
  obtain ⟨bu, dr, le, st, tr, ro, sf, pi, rfl⟩ := open_conf (by kernel_rfl) (hval 0 23 v0 rfl rfl) h0
  obtain ⟨rf, fl, fm, int, q, sa, sn, sc, ra, rc, z, R, rfl, hR⟩ := open_sheet (by kernel_rfl) (hval 1 32 v1 rfl rfl) h1
  clear hA0 hval0
  refine (walk bu dr le st tr ro sf pi rf fl fm int q sa sn sc ra rc z R a2 W hR).mono fun e W' ⟨he, bel⟩ => ?_
  subst he
  exact ⟨_, rfl, _, _, _, [], _, [], hW', trodAll_mk1 (shut_bool Try.underlying4 _), (trodAll_cons_mk (Below.trod laidOut (by kernel_rfl) (of_decide_eq_true (by kernel_rfl)) k0 bel lt0) (trodAll_cons_mk (Below.trod laidOut (by kernel_rfl) (of_decide_eq_true (by kernel_rfl)) k1 bel lt1) (trodAll_cons_mk (Below.trod laidOut (by kernel_rfl) (of_decide_eq_true (by kernel_rfl)) k2 bel lt2) trodAll_mk0))), rfl, bel.frame _, fun h => by cases h⟩

theorem over : Rows.guideRowsRow.holds Try.pinned (OpenSpec.ofChange Rows.guideRowsSpec) :=
  OpenClaim.holds_of_wide 4 Try.f4 rfl rfl rfl rfl rfl rfl rfl ⟨rfl, rfl, rfl, rfl, rfl⟩ rfl rfl rfl rfl rfl (by kernel_rfl) Try.func4 (by kernel_rfl)
    (of_decide_eq_true (by kernel_rfl)) (by unfold Func.isWrapper; first | (rw [if_pos (by decide +kernel)]; kernel_rfl) | (rw [if_neg (by decide +kernel)]; exact ⟨rfl, rfl⟩))
    (fun os started H enc _ => lifted os started H enc)

theorem proved : Rows.GuideRowsSaid := over
#print axioms proved
end Go.Proofs.Ytflicgngejnajaa.guideRowsLaw
