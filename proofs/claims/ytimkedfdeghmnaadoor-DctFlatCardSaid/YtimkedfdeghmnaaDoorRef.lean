/- The reference's Forward and Inverse. -/
import Derived.Test.YtimkedfdeghmnaaDoorTable
namespace Go.Proofs.YtimkedfdeghmnaaDoor
open Go.RowKit
set_option linter.unusedVariables false
set_option linter.unusedSimpArgs false
attribute [local go_sem] setCell_drewN alloc_drewN
attribute [local irreducible] wpList wpStill

theorem refClip_still (n lo hi r : Int) (h : clip n lo hi = r) (w : World) : Calls Tryd.prog 18 #[.int .i64 n, .int .i64 lo, .int .i64 hi] w fun e w' => e = .returned (.int .i64 r) ∧ w' = w :=
  (refClip_named h w).mono fun _ _ h => ⟨h.1, h.2.symm⟩

/-- What lies there while the reference reckons: the block, the result's place, the table. -/
def Lies (w0 w : World) (B b : Nat) (l : Nat → Int) : Prop := rowB w B 22 l ∧ rowB w (B + 1) 22 (fun _ => 0) ∧ rowB w b 33 wflat ∧ Below B w0 w
theorem Lies.set {w0 w : World} {B b : Nat} {l : Nat → Int} (h : Lies w0 w B b l) (hb : B + 1 < b) (i : Nat) (v : Value) : Lies w0 (w.setCell ⟨b + 1, i, none⟩ v) B b l :=
  ⟨h.1.setOther (by simp; omega) _, h.2.1.setOther (by simp; omega) _, h.2.2.1.setOther (by simp) _, h.2.2.2.setCell (by simp; omega) _⟩
theorem term_bd (u x : Nat) (y z : Nat) (c : Int) (h1 : -2048 ≤ c) (h2 : c ≤ 2047) : -7921 ≤ wt u x * wt y z ∧ wt u x * wt y z ≤ 7921 ∧ -16222208 ≤ wt u x * wt y z * c ∧ wt u x * wt y z * c ≤ 16222208 := by
  have a := mul_bd (wt_bd u x).1 (wt_bd u x).2 (wt_bd y z).1 (wt_bd y z).2 (by omega)
  have b := mul_bd (A := 7921) (B := 2048) (by omega : -7921 ≤ wt u x * wt y z) (by omega) (by omega : -2048 ≤ c) (by omega) (by omega)
  omega

theorem refForward_term_bd (l : Nat → Int) (p i : Nat) : -16222208 ≤ refTermF l p i ∧ refTermF l p i ≤ 16222208 := by
  have h := held_bd l i
  have t := term_bd (p % 8) (i % 8) (p / 8) (i / 8) (held l i) h.1 h.2
  have t2 := term_bd (i % 8) (p % 8) (i / 8) (p / 8) (held l i) h.1 h.2
  unfold refTermF
  omega
set_option maxHeartbeats 4000000 in
set_option maxRecDepth 100000 in
theorem refForward_call (l : Nat → Int) (w : World) : Calls Tryd.prog 8 #[blkV l] w fun e w' => e = .returned (blkV (fwd l)) ∧ Below w.heap.size w w' := by
  have c17 := hide (fun W => weights_call W)
  have c19 := hide (fun S W => refRound_call S 15 W)
  have c18 := hide (fun n r h W => refClip_still n (-2048) 2047 r h W)
  have c18b := hide (fun n r h W => refClip_named (n := n) (lo := (-2048)) (hi := 2047) (r := r) h W)
  unfold blkV at c17 ⊢
  have hr0 := (row_box w 22 l).alloc (.cells (List.toArray (Value.int .i64 0 :: Value.int .i64 0 :: Value.int .i64 0 :: Value.int .i64 0 :: Value.int .i64 0 :: Value.int .i64 0 :: Value.int .i64 0 :: Value.int .i64 0 :: Value.int .i64 0 :: Value.int .i64 0 :: Value.int .i64 0 :: Value.int .i64 0 :: Value.int .i64 0 :: Value.int .i64 0 :: Value.int .i64 0 :: Value.int .i64 0 :: Value.int .i64 0 :: Value.int .i64 0 :: Value.int .i64 0 :: Value.int .i64 0 :: Value.int .i64 0 :: Value.int .i64 0 :: Value.int .i64 0 :: Value.int .i64 0 :: Value.int .i64 0 :: Value.int .i64 0 :: Value.int .i64 0 :: Value.int .i64 0 :: Value.int .i64 0 :: Value.int .i64 0 :: Value.int .i64 0 :: Value.int .i64 0 :: Value.int .i64 0 :: Value.int .i64 0 :: Value.int .i64 0 :: Value.int .i64 0 :: Value.int .i64 0 :: Value.int .i64 0 :: Value.int .i64 0 :: Value.int .i64 0 :: Value.int .i64 0 :: Value.int .i64 0 :: Value.int .i64 0 :: Value.int .i64 0 :: Value.int .i64 0 :: Value.int .i64 0 :: Value.int .i64 0 :: Value.int .i64 0 :: Value.int .i64 0 :: Value.int .i64 0 :: Value.int .i64 0 :: Value.int .i64 0 :: Value.int .i64 0 :: Value.int .i64 0 :: Value.int .i64 0 :: Value.int .i64 0 :: Value.int .i64 0 :: Value.int .i64 0 :: Value.int .i64 0 :: Value.int .i64 0 :: Value.int .i64 0 :: Value.int .i64 0 :: Value.int .i64 0 :: Value.int .i64 0 :: [])) 22)
  have hr1 := row_zero (w.alloc (.cells (vals l).toArray 22)) 22
  have e : ∀ (w : World) (o : Obj), (w.alloc o).heap.size = w.heap.size + 1 := fun w o => by simp
  rw [e] at hr1
  have hB := below_alloc (below_alloc (Below.refl w.heap.size w) (.cells (vals l).toArray 22)) (.cells (List.toArray (Value.int .i64 0 :: Value.int .i64 0 :: Value.int .i64 0 :: Value.int .i64 0 :: Value.int .i64 0 :: Value.int .i64 0 :: Value.int .i64 0 :: Value.int .i64 0 :: Value.int .i64 0 :: Value.int .i64 0 :: Value.int .i64 0 :: Value.int .i64 0 :: Value.int .i64 0 :: Value.int .i64 0 :: Value.int .i64 0 :: Value.int .i64 0 :: Value.int .i64 0 :: Value.int .i64 0 :: Value.int .i64 0 :: Value.int .i64 0 :: Value.int .i64 0 :: Value.int .i64 0 :: Value.int .i64 0 :: Value.int .i64 0 :: Value.int .i64 0 :: Value.int .i64 0 :: Value.int .i64 0 :: Value.int .i64 0 :: Value.int .i64 0 :: Value.int .i64 0 :: Value.int .i64 0 :: Value.int .i64 0 :: Value.int .i64 0 :: Value.int .i64 0 :: Value.int .i64 0 :: Value.int .i64 0 :: Value.int .i64 0 :: Value.int .i64 0 :: Value.int .i64 0 :: Value.int .i64 0 :: Value.int .i64 0 :: Value.int .i64 0 :: Value.int .i64 0 :: Value.int .i64 0 :: Value.int .i64 0 :: Value.int .i64 0 :: Value.int .i64 0 :: Value.int .i64 0 :: Value.int .i64 0 :: Value.int .i64 0 :: Value.int .i64 0 :: Value.int .i64 0 :: Value.int .i64 0 :: Value.int .i64 0 :: Value.int .i64 0 :: Value.int .i64 0 :: Value.int .i64 0 :: Value.int .i64 0 :: Value.int .i64 0 :: Value.int .i64 0 :: Value.int .i64 0 :: Value.int .i64 0 :: Value.int .i64 0 :: Value.int .i64 0 :: [])) 22)
  have S0 := hide hr0
  have S1 := hide hr1
  have S2 := hide hB
  clear hr0 hr1 hB
  go_enter Tryd.func8, Tryd.ntmps8
  go_wp2_with fail
  generalize (w.alloc (.cells (vals l).toArray 22)).alloc (.cells (List.toArray (Value.int .i64 0 :: Value.int .i64 0 :: Value.int .i64 0 :: Value.int .i64 0 :: Value.int .i64 0 :: Value.int .i64 0 :: Value.int .i64 0 :: Value.int .i64 0 :: Value.int .i64 0 :: Value.int .i64 0 :: Value.int .i64 0 :: Value.int .i64 0 :: Value.int .i64 0 :: Value.int .i64 0 :: Value.int .i64 0 :: Value.int .i64 0 :: Value.int .i64 0 :: Value.int .i64 0 :: Value.int .i64 0 :: Value.int .i64 0 :: Value.int .i64 0 :: Value.int .i64 0 :: Value.int .i64 0 :: Value.int .i64 0 :: Value.int .i64 0 :: Value.int .i64 0 :: Value.int .i64 0 :: Value.int .i64 0 :: Value.int .i64 0 :: Value.int .i64 0 :: Value.int .i64 0 :: Value.int .i64 0 :: Value.int .i64 0 :: Value.int .i64 0 :: Value.int .i64 0 :: Value.int .i64 0 :: Value.int .i64 0 :: Value.int .i64 0 :: Value.int .i64 0 :: Value.int .i64 0 :: Value.int .i64 0 :: Value.int .i64 0 :: Value.int .i64 0 :: Value.int .i64 0 :: Value.int .i64 0 :: Value.int .i64 0 :: Value.int .i64 0 :: Value.int .i64 0 :: Value.int .i64 0 :: Value.int .i64 0 :: Value.int .i64 0 :: Value.int .i64 0 :: Value.int .i64 0 :: Value.int .i64 0 :: Value.int .i64 0 :: Value.int .i64 0 :: Value.int .i64 0 :: Value.int .i64 0 :: Value.int .i64 0 :: Value.int .i64 0 :: Value.int .i64 0 :: Value.int .i64 0 :: Value.int .i64 0 :: Value.int .i64 0 :: [])) 22) = w0 at S0 S1 S2 ⊢
  refine (c17.out w0).mono ?_
  rintro e1 w1 ⟨rfl, hb1⟩
  have S3 := hide (row_below S0.out hb1)
  have S4 := hide (row_below S1.out hb1)
  have S5 := hide (bstep S2.out hb1)
  have hgt : w.heap.size + 1 < w1.heap.size := (row_below S1.out hb1).lt
  clear hb1 S0 S1 S2
  have hL := hide (show Lies w (((w1.alloc (.cells (vals wflat).toArray 33))).alloc (.cells (List.toArray (Value.int .i64 0 :: Value.int .i64 0 :: Value.int .i64 0 :: Value.int .i64 0 :: Value.int .i64 0 :: Value.int .i64 0 :: Value.int .i64 0 :: Value.int .i64 0 :: Value.int .i64 0 :: Value.int .i64 0 :: Value.int .i64 0 :: Value.int .i64 0 :: Value.int .i64 0 :: Value.int .i64 0 :: Value.int .i64 0 :: Value.int .i64 0 :: Value.int .i64 0 :: Value.int .i64 0 :: Value.int .i64 0 :: Value.int .i64 0 :: Value.int .i64 0 :: Value.int .i64 0 :: Value.int .i64 0 :: Value.int .i64 0 :: Value.int .i64 0 :: Value.int .i64 0 :: Value.int .i64 0 :: Value.int .i64 0 :: Value.int .i64 0 :: Value.int .i64 0 :: Value.int .i64 0 :: Value.int .i64 0 :: Value.int .i64 0 :: Value.int .i64 0 :: Value.int .i64 0 :: Value.int .i64 0 :: Value.int .i64 0 :: Value.int .i64 0 :: Value.int .i64 0 :: Value.int .i64 0 :: Value.int .i64 0 :: Value.int .i64 0 :: Value.int .i64 0 :: Value.int .i64 0 :: Value.int .i64 0 :: Value.int .i64 0 :: Value.int .i64 0 :: Value.int .i64 0 :: Value.int .i64 0 :: Value.int .i64 0 :: Value.int .i64 0 :: Value.int .i64 0 :: Value.int .i64 0 :: Value.int .i64 0 :: Value.int .i64 0 :: Value.int .i64 0 :: Value.int .i64 0 :: Value.int .i64 0 :: Value.int .i64 0 :: Value.int .i64 0 :: Value.int .i64 0 :: Value.int .i64 0 :: Value.int .i64 0 :: Value.int .i64 0 :: [])) 22)) w.heap.size w1.heap.size l from
    ⟨(S3.out.alloc _).alloc _, (S4.out.alloc _).alloc _, (row_box w1 33 wflat).alloc _, below_alloc (below_alloc S5.out _) _⟩)
  have hz := row_zero (w1.alloc (.cells (vals wflat).toArray 33)) 22
  rw [e] at hz
  have HZ := hide (hz.congr (g := fun i => .int .i64 (upto (fwd l) 0 i)) (fun i _ => rfl))
  clear hz S3 S4 S5
  go_wp2_with (refine wpList_store_new (op := ⟨none, _, _, _, _, _⟩) rfl 33 (.tmp 3) (.tmp 8) rfl w1.heap.size rfl _ (vals wflat).toArray rfl rfl (by rw [vals_size]; exact size33) (by rw [vals_size]; rfl) (all_oneCell_toArray (vals_one _)) ?_)
  generalize (w1.alloc (.cells (vals wflat).toArray 33)).alloc (.cells (List.toArray (Value.int .i64 0 :: Value.int .i64 0 :: Value.int .i64 0 :: Value.int .i64 0 :: Value.int .i64 0 :: Value.int .i64 0 :: Value.int .i64 0 :: Value.int .i64 0 :: Value.int .i64 0 :: Value.int .i64 0 :: Value.int .i64 0 :: Value.int .i64 0 :: Value.int .i64 0 :: Value.int .i64 0 :: Value.int .i64 0 :: Value.int .i64 0 :: Value.int .i64 0 :: Value.int .i64 0 :: Value.int .i64 0 :: Value.int .i64 0 :: Value.int .i64 0 :: Value.int .i64 0 :: Value.int .i64 0 :: Value.int .i64 0 :: Value.int .i64 0 :: Value.int .i64 0 :: Value.int .i64 0 :: Value.int .i64 0 :: Value.int .i64 0 :: Value.int .i64 0 :: Value.int .i64 0 :: Value.int .i64 0 :: Value.int .i64 0 :: Value.int .i64 0 :: Value.int .i64 0 :: Value.int .i64 0 :: Value.int .i64 0 :: Value.int .i64 0 :: Value.int .i64 0 :: Value.int .i64 0 :: Value.int .i64 0 :: Value.int .i64 0 :: Value.int .i64 0 :: Value.int .i64 0 :: Value.int .i64 0 :: Value.int .i64 0 :: Value.int .i64 0 :: Value.int .i64 0 :: Value.int .i64 0 :: Value.int .i64 0 :: Value.int .i64 0 :: Value.int .i64 0 :: Value.int .i64 0 :: Value.int .i64 0 :: Value.int .i64 0 :: Value.int .i64 0 :: Value.int .i64 0 :: Value.int .i64 0 :: Value.int .i64 0 :: Value.int .i64 0 :: Value.int .i64 0 :: Value.int .i64 0 :: Value.int .i64 0 :: Value.int .i64 0 :: [])) 22) = w2 at hL HZ ⊢
  generalize w1.heap.size = b at hL HZ hgt ⊢
  go_loopw [5, 6, 7] (fun i _ _ wr => ∃ p : Nat, p ≤ 64 ∧ i = .int .i64 (p : Int) ∧ rowB wr (b + 1) 22 (upto (fwd l) p) ∧ Lies w wr w.heap.size b l) (fun i _ _ _ => 64 - (intOf i).toNat)
  case atStart => exact ⟨0, by omega, rfl, HZ.out, hL.out⟩
  case round =>
    obtain ⟨p, hp, rfl, h1, h2⟩ := hrel
    have H1 := hide h1
    have H2 := hide h2
    by_cases hlt : (p : Int) < 64
    · have hp64 : p < 64 := by omega
      clear h1 h2
      go_wp2_with fail
      go_loopw [6, 7] (fun s i w3 => ∃ n q : Nat, n ≤ 64 ∧ i = .int .i64 (n : Int) ∧ s = .int .i64 (tsum (refTermF l p) n) ∧ w3 = wr.drewN q) (fun _ i _ => 64 - (intOf i).toNat)
      case atStart => exact ⟨0, 0, by omega, rfl, rfl, rfl⟩
      case round =>
        obtain ⟨n, q, hn, rfl, rfl, rfl⟩ := hrel
        by_cases hlt2 : (n : Int) < 64
        · have hn64 : n < 64 := by omega
          have gl := H2.out.1.cell hn64
          by_cases h0 : l n = 0
          · have hq : refTermF l p n = 0 := by unfold refTermF; rw [held_zero h0, Int.mul_zero]
            have hsx : tsum (refTermF l p) (n + 1) = tsum (refTermF l p) n := by rw [tsum, hq, Int.add_zero]
            have HSX := hide hsx
            rw [h0] at gl
            clear hsx hq
            go_wp2_with fail
            go_roundw
            case rel => exact ⟨n + 1, q, by omega, by go_num, by rw [HSX.out], rfl⟩
            case measure => simp [intOf]; omega
          · have h0b : (l n == 0) = false := by rw [beq_eq_false_iff_ne]; exact h0
            have hbd := tsum_bd n (fun i hi => refForward_term_bd l p i)
            have hbn : (n : Int) * 16222208 ≤ 1021999104 := by omega
            have htb := held_bd l n
            have ht := term_bd (p % 8) (n % 8) (p / 8) (n / 8) (held l n) htb.1 htb.2
            have hsx : tsum (refTermF l p) (n + 1) = tsum (refTermF l p) n + wt (p % 8) (n % 8) * wt (p / 8) (n / 8) * held l n := rfl
            have HSX := hide hsx
            have g1 := H2.out.2.2.1.cell (i := (p % 8) * 8 + n % 8) (by omega)
            have g2 := H2.out.2.2.1.cell (i := (p / 8) * 8 + n / 8) (by omega)
            have e1 : wflat ((p % 8) * 8 + n % 8) = wt (p % 8) (n % 8) := by unfold wflat; rw [show ((p % 8) * 8 + n % 8) / 8 = p % 8 by omega, show ((p % 8) * 8 + n % 8) % 8 = n % 8 by omega]
            have e2 : wflat ((p / 8) * 8 + n / 8) = wt (p / 8) (n / 8) := by unfold wflat; rw [show ((p / 8) * 8 + n / 8) / 8 = p / 8 by omega, show ((p / 8) * 8 + n / 8) % 8 = n / 8 by omega]
            rw [e1] at g1
            rw [e2] at g2
            have hcl := hide (show clip (l n) (-2048) 2047 = held l n from rfl)
            clear hsx e1 e2
            generalize tsum (refTermF l p) n = S at *
            generalize wt (p % 8) (n % 8) = t1 at *
            generalize wt (p / 8) (n / 8) = t2 at *
            generalize held l n = hv at *
            have k1 : Int.tmod (p : Int) 8 = ((p % 8 : Nat) : Int) := by rw [Int.tmod_eq_emod_of_nonneg (by omega)]; omega
            have k2 : Int.tmod (n : Int) 8 = ((n % 8 : Nat) : Int) := by rw [Int.tmod_eq_emod_of_nonneg (by omega)]; omega
            have k3 : Int.tdiv (p : Int) 8 = ((p / 8 : Nat) : Int) := by rw [Int.tdiv_eq_ediv_of_nonneg (by omega)]; omega
            have k4 : Int.tdiv (n : Int) 8 = ((n / 8 : Nat) : Int) := by rw [Int.tdiv_eq_ediv_of_nonneg (by omega)]; omega
            have b1 : ((p % 8 : Nat) : Int) < 8 := by omega
            have b2 : ((n % 8 : Nat) : Int) < 8 := by omega
            have b3 : ((p / 8 : Nat) : Int) < 8 := by omega
            have b4 : ((n / 8 : Nat) : Int) < 8 := by omega
            generalize p % 8 = pm at k1 b1 g1 g2
            generalize n % 8 = nm at k2 b2 g1 g2
            generalize p / 8 = pd at k3 b3 g1 g2
            generalize n / 8 = nd at k4 b4 g1 g2
            have wp3 : IntKind.i64.wrap (pd : Int) = (pd : Int) := by rw [IntKind.wrap_i64]; omega
            have wp4 : IntKind.i64.wrap (nd : Int) = (nd : Int) := by rw [IntKind.wrap_i64]; omega
            have wq1 : IntKind.i64.wrap (t1 * t2) = t1 * t2 := by rw [IntKind.wrap_i64]; omega
            have wq2 : IntKind.i64.wrap (t1 * t2 * hv) = t1 * t2 * hv := by rw [IntKind.wrap_i64]; omega
            have wq3 : IntKind.i64.wrap (S + t1 * t2 * hv) = S + t1 * t2 * hv := by rw [IntKind.wrap_i64]; omega
            go_wp2_with fail
            refine wp_region_still_tail 22 (by kernel_rfl) (by kernel_rfl) ?_
            change wpStill Tryd.prog _ (World.drew _) (fun a' => wpList _ _ _ _ a' (World.drew _)) _ _
            simp only [List.take_succ_cons, List.take_zero, List.drop_succ_cons, List.drop_zero]
            repeat still_step
            still_call (c18.out _ _ hcl.out _)
            repeat still_step
            refine wpStill_nil ?_
            go_wp2_with fail
            go_roundw
            case rel => exact ⟨n + 1, _, by omega, by go_num, by rw [HSX.out], rfl⟩
            case measure => simp [intOf]; omega
        · have hn64 : n = 64 := by omega
          subst hn64
          have hbq := below_drewN (Below.refl wr.heap.size wr) q
          have h1 := row_below H1.out hbq
          have L' := hide (show Lies w (wr.drewN q) w.heap.size b l from ⟨row_below H2.out.1 hbq, row_below H2.out.2.1 hbq, row_below H2.out.2.2.1 hbq, H2.out.2.2.2.trans (hbq.mono H2.out.2.2.2.size)⟩)
          have H1' := hide h1
          have gr := h1.cell hp64
          have gf := h1.frozen p
          clear h1 hbq
          generalize wr.drewN q = w5 at *
          rw [refF_sum]
          go_wp2_with fail
          refine (c19.out _ _).mono ?_
          rintro e6 w6 ⟨rfl, rfl⟩
          go_wp2_with fail
          refine (c18b.out _ (fwd l p) rfl _).mono ?_
          rintro e7 w7 ⟨rfl, rfl⟩
          go_wp2_with fail
          go_roundw
          case rel => exact ⟨p + 1, by omega, by go_num, (H1'.out.set p _).congr (fun x _ => upto_set (fwd l) p x), L'.out.set hgt p _⟩
          case measure => simp [intOf]; omega
    · have hp64 : p = 64 := by omega
      have hr := row_range (h1.congr (g := fun i => .int .i64 (fwd l i)) (fun i hi => by rw [hp64, upto_all (fwd l) hi]))
      have ht := row_there h2.2.1
      have HR := hide hr
      have HT := hide ht
      have HB := hide h2.2.2.2
      clear h1 h2 hr ht hp64
      go_wp2_with (first
        | (refine wpList_load_mid (op := ⟨some 48, _, _, _, _, _⟩) rfl 22 (.tmp 4) rfl (b + 1) 0 rfl _ _ HR.out Tryd.underlying22 rfl (info22 _) ?_)
        | (refine wpList_store_mid (op := ⟨none, _, _, _, _, _⟩) rfl 22 (.tmp 2) (.tmp 48) rfl (w.heap.size + 1) 0 (vals (fwd l)).toArray rfl rfl (by rw [vals_size]; exact HT.out) (by rw [vals_size]; exact size22) (all_oneCell_toArray (vals_one _)) ?_))
      exact bodyPost_ret (v := blkV (fwd l)) (results_cell _ (w.heap.size + 1) (fwd l) _ rfl rfl (World.rangeAt_setCells_same _ _ _ _ (by rw [vals_length]; exact HT.out)) Tryd.underlying22 rfl (info22 _)) rfl ⟨rfl, below_setCells (by omega) _ _ _ HB.out⟩

theorem refInverse_term_bd (l : Nat → Int) (p i : Nat) : -16222208 ≤ refTermI l p i ∧ refTermI l p i ≤ 16222208 := by
  have h := held_bd l i
  have t := term_bd (p % 8) (i % 8) (p / 8) (i / 8) (held l i) h.1 h.2
  have t2 := term_bd (i % 8) (p % 8) (i / 8) (p / 8) (held l i) h.1 h.2
  unfold refTermI
  omega
set_option maxHeartbeats 4000000 in
set_option maxRecDepth 100000 in
theorem refInverse_call (l : Nat → Int) (w : World) : Calls Tryd.prog 11 #[blkV l] w fun e w' => e = .returned (blkV (inv l)) ∧ Below w.heap.size w w' := by
  have c17 := hide (fun W => weights_call W)
  have c19 := hide (fun S W => refRound_call S 15 W)
  have c18 := hide (fun n r h W => refClip_still n (-2048) 2047 r h W)
  have c18b := hide (fun n r h W => refClip_named (n := n) (lo := (-256)) (hi := 255) (r := r) h W)
  unfold blkV at c17 ⊢
  have hr0 := (row_box w 22 l).alloc (.cells (List.toArray (Value.int .i64 0 :: Value.int .i64 0 :: Value.int .i64 0 :: Value.int .i64 0 :: Value.int .i64 0 :: Value.int .i64 0 :: Value.int .i64 0 :: Value.int .i64 0 :: Value.int .i64 0 :: Value.int .i64 0 :: Value.int .i64 0 :: Value.int .i64 0 :: Value.int .i64 0 :: Value.int .i64 0 :: Value.int .i64 0 :: Value.int .i64 0 :: Value.int .i64 0 :: Value.int .i64 0 :: Value.int .i64 0 :: Value.int .i64 0 :: Value.int .i64 0 :: Value.int .i64 0 :: Value.int .i64 0 :: Value.int .i64 0 :: Value.int .i64 0 :: Value.int .i64 0 :: Value.int .i64 0 :: Value.int .i64 0 :: Value.int .i64 0 :: Value.int .i64 0 :: Value.int .i64 0 :: Value.int .i64 0 :: Value.int .i64 0 :: Value.int .i64 0 :: Value.int .i64 0 :: Value.int .i64 0 :: Value.int .i64 0 :: Value.int .i64 0 :: Value.int .i64 0 :: Value.int .i64 0 :: Value.int .i64 0 :: Value.int .i64 0 :: Value.int .i64 0 :: Value.int .i64 0 :: Value.int .i64 0 :: Value.int .i64 0 :: Value.int .i64 0 :: Value.int .i64 0 :: Value.int .i64 0 :: Value.int .i64 0 :: Value.int .i64 0 :: Value.int .i64 0 :: Value.int .i64 0 :: Value.int .i64 0 :: Value.int .i64 0 :: Value.int .i64 0 :: Value.int .i64 0 :: Value.int .i64 0 :: Value.int .i64 0 :: Value.int .i64 0 :: Value.int .i64 0 :: Value.int .i64 0 :: Value.int .i64 0 :: Value.int .i64 0 :: [])) 22)
  have hr1 := row_zero (w.alloc (.cells (vals l).toArray 22)) 22
  have e : ∀ (w : World) (o : Obj), (w.alloc o).heap.size = w.heap.size + 1 := fun w o => by simp
  rw [e] at hr1
  have hB := below_alloc (below_alloc (Below.refl w.heap.size w) (.cells (vals l).toArray 22)) (.cells (List.toArray (Value.int .i64 0 :: Value.int .i64 0 :: Value.int .i64 0 :: Value.int .i64 0 :: Value.int .i64 0 :: Value.int .i64 0 :: Value.int .i64 0 :: Value.int .i64 0 :: Value.int .i64 0 :: Value.int .i64 0 :: Value.int .i64 0 :: Value.int .i64 0 :: Value.int .i64 0 :: Value.int .i64 0 :: Value.int .i64 0 :: Value.int .i64 0 :: Value.int .i64 0 :: Value.int .i64 0 :: Value.int .i64 0 :: Value.int .i64 0 :: Value.int .i64 0 :: Value.int .i64 0 :: Value.int .i64 0 :: Value.int .i64 0 :: Value.int .i64 0 :: Value.int .i64 0 :: Value.int .i64 0 :: Value.int .i64 0 :: Value.int .i64 0 :: Value.int .i64 0 :: Value.int .i64 0 :: Value.int .i64 0 :: Value.int .i64 0 :: Value.int .i64 0 :: Value.int .i64 0 :: Value.int .i64 0 :: Value.int .i64 0 :: Value.int .i64 0 :: Value.int .i64 0 :: Value.int .i64 0 :: Value.int .i64 0 :: Value.int .i64 0 :: Value.int .i64 0 :: Value.int .i64 0 :: Value.int .i64 0 :: Value.int .i64 0 :: Value.int .i64 0 :: Value.int .i64 0 :: Value.int .i64 0 :: Value.int .i64 0 :: Value.int .i64 0 :: Value.int .i64 0 :: Value.int .i64 0 :: Value.int .i64 0 :: Value.int .i64 0 :: Value.int .i64 0 :: Value.int .i64 0 :: Value.int .i64 0 :: Value.int .i64 0 :: Value.int .i64 0 :: Value.int .i64 0 :: Value.int .i64 0 :: Value.int .i64 0 :: Value.int .i64 0 :: [])) 22)
  have S0 := hide hr0
  have S1 := hide hr1
  have S2 := hide hB
  clear hr0 hr1 hB
  go_enter Tryd.func11, Tryd.ntmps11
  go_wp2_with fail
  generalize (w.alloc (.cells (vals l).toArray 22)).alloc (.cells (List.toArray (Value.int .i64 0 :: Value.int .i64 0 :: Value.int .i64 0 :: Value.int .i64 0 :: Value.int .i64 0 :: Value.int .i64 0 :: Value.int .i64 0 :: Value.int .i64 0 :: Value.int .i64 0 :: Value.int .i64 0 :: Value.int .i64 0 :: Value.int .i64 0 :: Value.int .i64 0 :: Value.int .i64 0 :: Value.int .i64 0 :: Value.int .i64 0 :: Value.int .i64 0 :: Value.int .i64 0 :: Value.int .i64 0 :: Value.int .i64 0 :: Value.int .i64 0 :: Value.int .i64 0 :: Value.int .i64 0 :: Value.int .i64 0 :: Value.int .i64 0 :: Value.int .i64 0 :: Value.int .i64 0 :: Value.int .i64 0 :: Value.int .i64 0 :: Value.int .i64 0 :: Value.int .i64 0 :: Value.int .i64 0 :: Value.int .i64 0 :: Value.int .i64 0 :: Value.int .i64 0 :: Value.int .i64 0 :: Value.int .i64 0 :: Value.int .i64 0 :: Value.int .i64 0 :: Value.int .i64 0 :: Value.int .i64 0 :: Value.int .i64 0 :: Value.int .i64 0 :: Value.int .i64 0 :: Value.int .i64 0 :: Value.int .i64 0 :: Value.int .i64 0 :: Value.int .i64 0 :: Value.int .i64 0 :: Value.int .i64 0 :: Value.int .i64 0 :: Value.int .i64 0 :: Value.int .i64 0 :: Value.int .i64 0 :: Value.int .i64 0 :: Value.int .i64 0 :: Value.int .i64 0 :: Value.int .i64 0 :: Value.int .i64 0 :: Value.int .i64 0 :: Value.int .i64 0 :: Value.int .i64 0 :: Value.int .i64 0 :: Value.int .i64 0 :: [])) 22) = w0 at S0 S1 S2 ⊢
  refine (c17.out w0).mono ?_
  rintro e1 w1 ⟨rfl, hb1⟩
  have S3 := hide (row_below S0.out hb1)
  have S4 := hide (row_below S1.out hb1)
  have S5 := hide (bstep S2.out hb1)
  have hgt : w.heap.size + 1 < w1.heap.size := (row_below S1.out hb1).lt
  clear hb1 S0 S1 S2
  have hL := hide (show Lies w (((w1.alloc (.cells (vals wflat).toArray 33))).alloc (.cells (List.toArray (Value.int .i64 0 :: Value.int .i64 0 :: Value.int .i64 0 :: Value.int .i64 0 :: Value.int .i64 0 :: Value.int .i64 0 :: Value.int .i64 0 :: Value.int .i64 0 :: Value.int .i64 0 :: Value.int .i64 0 :: Value.int .i64 0 :: Value.int .i64 0 :: Value.int .i64 0 :: Value.int .i64 0 :: Value.int .i64 0 :: Value.int .i64 0 :: Value.int .i64 0 :: Value.int .i64 0 :: Value.int .i64 0 :: Value.int .i64 0 :: Value.int .i64 0 :: Value.int .i64 0 :: Value.int .i64 0 :: Value.int .i64 0 :: Value.int .i64 0 :: Value.int .i64 0 :: Value.int .i64 0 :: Value.int .i64 0 :: Value.int .i64 0 :: Value.int .i64 0 :: Value.int .i64 0 :: Value.int .i64 0 :: Value.int .i64 0 :: Value.int .i64 0 :: Value.int .i64 0 :: Value.int .i64 0 :: Value.int .i64 0 :: Value.int .i64 0 :: Value.int .i64 0 :: Value.int .i64 0 :: Value.int .i64 0 :: Value.int .i64 0 :: Value.int .i64 0 :: Value.int .i64 0 :: Value.int .i64 0 :: Value.int .i64 0 :: Value.int .i64 0 :: Value.int .i64 0 :: Value.int .i64 0 :: Value.int .i64 0 :: Value.int .i64 0 :: Value.int .i64 0 :: Value.int .i64 0 :: Value.int .i64 0 :: Value.int .i64 0 :: Value.int .i64 0 :: Value.int .i64 0 :: Value.int .i64 0 :: Value.int .i64 0 :: Value.int .i64 0 :: Value.int .i64 0 :: Value.int .i64 0 :: Value.int .i64 0 :: Value.int .i64 0 :: [])) 22)) w.heap.size w1.heap.size l from
    ⟨(S3.out.alloc _).alloc _, (S4.out.alloc _).alloc _, (row_box w1 33 wflat).alloc _, below_alloc (below_alloc S5.out _) _⟩)
  have hz := row_zero (w1.alloc (.cells (vals wflat).toArray 33)) 22
  rw [e] at hz
  have HZ := hide (hz.congr (g := fun i => .int .i64 (upto (inv l) 0 i)) (fun i _ => rfl))
  clear hz S3 S4 S5
  go_wp2_with (refine wpList_store_new (op := ⟨none, _, _, _, _, _⟩) rfl 33 (.tmp 3) (.tmp 8) rfl w1.heap.size rfl _ (vals wflat).toArray rfl rfl (by rw [vals_size]; exact size33) (by rw [vals_size]; rfl) (all_oneCell_toArray (vals_one _)) ?_)
  generalize (w1.alloc (.cells (vals wflat).toArray 33)).alloc (.cells (List.toArray (Value.int .i64 0 :: Value.int .i64 0 :: Value.int .i64 0 :: Value.int .i64 0 :: Value.int .i64 0 :: Value.int .i64 0 :: Value.int .i64 0 :: Value.int .i64 0 :: Value.int .i64 0 :: Value.int .i64 0 :: Value.int .i64 0 :: Value.int .i64 0 :: Value.int .i64 0 :: Value.int .i64 0 :: Value.int .i64 0 :: Value.int .i64 0 :: Value.int .i64 0 :: Value.int .i64 0 :: Value.int .i64 0 :: Value.int .i64 0 :: Value.int .i64 0 :: Value.int .i64 0 :: Value.int .i64 0 :: Value.int .i64 0 :: Value.int .i64 0 :: Value.int .i64 0 :: Value.int .i64 0 :: Value.int .i64 0 :: Value.int .i64 0 :: Value.int .i64 0 :: Value.int .i64 0 :: Value.int .i64 0 :: Value.int .i64 0 :: Value.int .i64 0 :: Value.int .i64 0 :: Value.int .i64 0 :: Value.int .i64 0 :: Value.int .i64 0 :: Value.int .i64 0 :: Value.int .i64 0 :: Value.int .i64 0 :: Value.int .i64 0 :: Value.int .i64 0 :: Value.int .i64 0 :: Value.int .i64 0 :: Value.int .i64 0 :: Value.int .i64 0 :: Value.int .i64 0 :: Value.int .i64 0 :: Value.int .i64 0 :: Value.int .i64 0 :: Value.int .i64 0 :: Value.int .i64 0 :: Value.int .i64 0 :: Value.int .i64 0 :: Value.int .i64 0 :: Value.int .i64 0 :: Value.int .i64 0 :: Value.int .i64 0 :: Value.int .i64 0 :: Value.int .i64 0 :: Value.int .i64 0 :: Value.int .i64 0 :: Value.int .i64 0 :: [])) 22) = w2 at hL HZ ⊢
  generalize w1.heap.size = b at hL HZ hgt ⊢
  go_loopw [5, 6, 7] (fun i _ _ wr => ∃ p : Nat, p ≤ 64 ∧ i = .int .i64 (p : Int) ∧ rowB wr (b + 1) 22 (upto (inv l) p) ∧ Lies w wr w.heap.size b l) (fun i _ _ _ => 64 - (intOf i).toNat)
  case atStart => exact ⟨0, by omega, rfl, HZ.out, hL.out⟩
  case round =>
    obtain ⟨p, hp, rfl, h1, h2⟩ := hrel
    have H1 := hide h1
    have H2 := hide h2
    by_cases hlt : (p : Int) < 64
    · have hp64 : p < 64 := by omega
      clear h1 h2
      go_wp2_with fail
      go_loopw [6, 7] (fun s i w3 => ∃ n q : Nat, n ≤ 64 ∧ i = .int .i64 (n : Int) ∧ s = .int .i64 (tsum (refTermI l p) n) ∧ w3 = wr.drewN q) (fun _ i _ => 64 - (intOf i).toNat)
      case atStart => exact ⟨0, 0, by omega, rfl, rfl, rfl⟩
      case round =>
        obtain ⟨n, q, hn, rfl, rfl, rfl⟩ := hrel
        by_cases hlt2 : (n : Int) < 64
        · have hn64 : n < 64 := by omega
          have gl := H2.out.1.cell hn64
          by_cases h0 : l n = 0
          · have hq : refTermI l p n = 0 := by unfold refTermI; rw [held_zero h0, Int.mul_zero]
            have hsx : tsum (refTermI l p) (n + 1) = tsum (refTermI l p) n := by rw [tsum, hq, Int.add_zero]
            have HSX := hide hsx
            rw [h0] at gl
            clear hsx hq
            go_wp2_with fail
            go_roundw
            case rel => exact ⟨n + 1, q, by omega, by go_num, by rw [HSX.out], rfl⟩
            case measure => simp [intOf]; omega
          · have h0b : (l n == 0) = false := by rw [beq_eq_false_iff_ne]; exact h0
            have hbd := tsum_bd n (fun i hi => refInverse_term_bd l p i)
            have hbn : (n : Int) * 16222208 ≤ 1021999104 := by omega
            have htb := held_bd l n
            have ht := term_bd (n % 8) (p % 8) (n / 8) (p / 8) (held l n) htb.1 htb.2
            have hsx : tsum (refTermI l p) (n + 1) = tsum (refTermI l p) n + wt (n % 8) (p % 8) * wt (n / 8) (p / 8) * held l n := rfl
            have HSX := hide hsx
            have g1 := H2.out.2.2.1.cell (i := (n % 8) * 8 + p % 8) (by omega)
            have g2 := H2.out.2.2.1.cell (i := (n / 8) * 8 + p / 8) (by omega)
            have e1 : wflat ((n % 8) * 8 + p % 8) = wt (n % 8) (p % 8) := by unfold wflat; rw [show ((n % 8) * 8 + p % 8) / 8 = n % 8 by omega, show ((n % 8) * 8 + p % 8) % 8 = p % 8 by omega]
            have e2 : wflat ((n / 8) * 8 + p / 8) = wt (n / 8) (p / 8) := by unfold wflat; rw [show ((n / 8) * 8 + p / 8) / 8 = n / 8 by omega, show ((n / 8) * 8 + p / 8) % 8 = p / 8 by omega]
            rw [e1] at g1
            rw [e2] at g2
            have hcl := hide (show clip (l n) (-2048) 2047 = held l n from rfl)
            clear hsx e1 e2
            generalize tsum (refTermI l p) n = S at *
            generalize wt (n % 8) (p % 8) = t1 at *
            generalize wt (n / 8) (p / 8) = t2 at *
            generalize held l n = hv at *
            have k1 : Int.tmod (p : Int) 8 = ((p % 8 : Nat) : Int) := by rw [Int.tmod_eq_emod_of_nonneg (by omega)]; omega
            have k2 : Int.tmod (n : Int) 8 = ((n % 8 : Nat) : Int) := by rw [Int.tmod_eq_emod_of_nonneg (by omega)]; omega
            have k3 : Int.tdiv (p : Int) 8 = ((p / 8 : Nat) : Int) := by rw [Int.tdiv_eq_ediv_of_nonneg (by omega)]; omega
            have k4 : Int.tdiv (n : Int) 8 = ((n / 8 : Nat) : Int) := by rw [Int.tdiv_eq_ediv_of_nonneg (by omega)]; omega
            have b1 : ((p % 8 : Nat) : Int) < 8 := by omega
            have b2 : ((n % 8 : Nat) : Int) < 8 := by omega
            have b3 : ((p / 8 : Nat) : Int) < 8 := by omega
            have b4 : ((n / 8 : Nat) : Int) < 8 := by omega
            generalize p % 8 = pm at k1 b1 g1 g2
            generalize n % 8 = nm at k2 b2 g1 g2
            generalize p / 8 = pd at k3 b3 g1 g2
            generalize n / 8 = nd at k4 b4 g1 g2
            have wp3 : IntKind.i64.wrap (pd : Int) = (pd : Int) := by rw [IntKind.wrap_i64]; omega
            have wp4 : IntKind.i64.wrap (nd : Int) = (nd : Int) := by rw [IntKind.wrap_i64]; omega
            have wq1 : IntKind.i64.wrap (t1 * t2) = t1 * t2 := by rw [IntKind.wrap_i64]; omega
            have wq2 : IntKind.i64.wrap (t1 * t2 * hv) = t1 * t2 * hv := by rw [IntKind.wrap_i64]; omega
            have wq3 : IntKind.i64.wrap (S + t1 * t2 * hv) = S + t1 * t2 * hv := by rw [IntKind.wrap_i64]; omega
            go_wp2_with fail
            refine wp_region_still_tail 22 (by kernel_rfl) (by kernel_rfl) ?_
            change wpStill Tryd.prog _ (World.drew _) (fun a' => wpList _ _ _ _ a' (World.drew _)) _ _
            simp only [List.take_succ_cons, List.take_zero, List.drop_succ_cons, List.drop_zero]
            repeat still_step
            still_call (c18.out _ _ hcl.out _)
            repeat still_step
            refine wpStill_nil ?_
            go_wp2_with fail
            go_roundw
            case rel => exact ⟨n + 1, _, by omega, by go_num, by rw [HSX.out], rfl⟩
            case measure => simp [intOf]; omega
        · have hn64 : n = 64 := by omega
          subst hn64
          have hbq := below_drewN (Below.refl wr.heap.size wr) q
          have h1 := row_below H1.out hbq
          have L' := hide (show Lies w (wr.drewN q) w.heap.size b l from ⟨row_below H2.out.1 hbq, row_below H2.out.2.1 hbq, row_below H2.out.2.2.1 hbq, H2.out.2.2.2.trans (hbq.mono H2.out.2.2.2.size)⟩)
          have H1' := hide h1
          have gr := h1.cell hp64
          have gf := h1.frozen p
          clear h1 hbq
          generalize wr.drewN q = w5 at *
          rw [refI_sum]
          go_wp2_with fail
          refine (c19.out _ _).mono ?_
          rintro e6 w6 ⟨rfl, rfl⟩
          go_wp2_with fail
          refine (c18b.out _ (inv l p) rfl _).mono ?_
          rintro e7 w7 ⟨rfl, rfl⟩
          go_wp2_with fail
          go_roundw
          case rel => exact ⟨p + 1, by omega, by go_num, (H1'.out.set p _).congr (fun x _ => upto_set (inv l) p x), L'.out.set hgt p _⟩
          case measure => simp [intOf]; omega
    · have hp64 : p = 64 := by omega
      have hr := row_range (h1.congr (g := fun i => .int .i64 (inv l i)) (fun i hi => by rw [hp64, upto_all (inv l) hi]))
      have ht := row_there h2.2.1
      have HR := hide hr
      have HT := hide ht
      have HB := hide h2.2.2.2
      clear h1 h2 hr ht hp64
      go_wp2_with (first
        | (refine wpList_load_mid (op := ⟨some 48, _, _, _, _, _⟩) rfl 22 (.tmp 4) rfl (b + 1) 0 rfl _ _ HR.out Tryd.underlying22 rfl (info22 _) ?_)
        | (refine wpList_store_mid (op := ⟨none, _, _, _, _, _⟩) rfl 22 (.tmp 2) (.tmp 48) rfl (w.heap.size + 1) 0 (vals (inv l)).toArray rfl rfl (by rw [vals_size]; exact HT.out) (by rw [vals_size]; exact size22) (all_oneCell_toArray (vals_one _)) ?_))
      exact bodyPost_ret (v := blkV (inv l)) (results_cell _ (w.heap.size + 1) (inv l) _ rfl rfl (World.rangeAt_setCells_same _ _ _ _ (by rw [vals_length]; exact HT.out)) Tryd.underlying22 rfl (info22 _)) rfl ⟨rfl, below_setCells (by omega) _ _ _ HB.out⟩
end Go.Proofs.YtimkedfdeghmnaaDoor
