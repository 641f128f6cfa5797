/- The walk of turned. -/
import Derived.Test.YtimkedfdeghmnaaDoorRef
namespace Go.Proofs.YtimkedfdeghmnaaDoor
open Go.RowKit
set_option linter.unusedVariables false
set_option linter.unusedSimpArgs false
attribute [local go_sem] setCell_drewN alloc_drewN
attribute [local irreducible] wpList wpStill

set_option maxHeartbeats 2000000 in
set_option maxRecDepth 100000 in
theorem turned_call (l : Nat → Int) (w : World) : Calls Tryd.prog 12 #[blkV l] w fun e w' => e = .returned (blkV (turn l)) ∧ Below w.heap.size w w' := by
  obtain ⟨s0, s1, s2, s3⟩ := start3 w l 22 22 22
  have S0 := hide s0
  have S1 := hide s1
  have S2 := hide (s2.congr (g := fun i => .int .i64 (upto (turn l) 0 i)) (fun i _ => rfl))
  have S3 := hide s3
  clear s0 s1 s2 s3
  unfold blkV
  go_enter Tryd.func12, Tryd.ntmps12
  go_wp2_with fail
  generalize ((w.alloc (.cells (vals l).toArray 22)).alloc (.cells (List.toArray (Value.int .i64 0 :: Value.int .i64 0 :: Value.int .i64 0 :: Value.int .i64 0 :: Value.int .i64 0 :: Value.int .i64 0 :: Value.int .i64 0 :: Value.int .i64 0 :: Value.int .i64 0 :: Value.int .i64 0 :: Value.int .i64 0 :: Value.int .i64 0 :: Value.int .i64 0 :: Value.int .i64 0 :: Value.int .i64 0 :: Value.int .i64 0 :: Value.int .i64 0 :: Value.int .i64 0 :: Value.int .i64 0 :: Value.int .i64 0 :: Value.int .i64 0 :: Value.int .i64 0 :: Value.int .i64 0 :: Value.int .i64 0 :: Value.int .i64 0 :: Value.int .i64 0 :: Value.int .i64 0 :: Value.int .i64 0 :: Value.int .i64 0 :: Value.int .i64 0 :: Value.int .i64 0 :: Value.int .i64 0 :: Value.int .i64 0 :: Value.int .i64 0 :: Value.int .i64 0 :: Value.int .i64 0 :: Value.int .i64 0 :: Value.int .i64 0 :: Value.int .i64 0 :: Value.int .i64 0 :: Value.int .i64 0 :: Value.int .i64 0 :: Value.int .i64 0 :: Value.int .i64 0 :: Value.int .i64 0 :: Value.int .i64 0 :: Value.int .i64 0 :: Value.int .i64 0 :: Value.int .i64 0 :: Value.int .i64 0 :: Value.int .i64 0 :: Value.int .i64 0 :: Value.int .i64 0 :: Value.int .i64 0 :: Value.int .i64 0 :: Value.int .i64 0 :: Value.int .i64 0 :: Value.int .i64 0 :: Value.int .i64 0 :: Value.int .i64 0 :: Value.int .i64 0 :: Value.int .i64 0 :: Value.int .i64 0 :: Value.int .i64 0 :: [])) 22)).alloc (.cells (List.toArray (Value.int .i64 0 :: Value.int .i64 0 :: Value.int .i64 0 :: Value.int .i64 0 :: Value.int .i64 0 :: Value.int .i64 0 :: Value.int .i64 0 :: Value.int .i64 0 :: Value.int .i64 0 :: Value.int .i64 0 :: Value.int .i64 0 :: Value.int .i64 0 :: Value.int .i64 0 :: Value.int .i64 0 :: Value.int .i64 0 :: Value.int .i64 0 :: Value.int .i64 0 :: Value.int .i64 0 :: Value.int .i64 0 :: Value.int .i64 0 :: Value.int .i64 0 :: Value.int .i64 0 :: Value.int .i64 0 :: Value.int .i64 0 :: Value.int .i64 0 :: Value.int .i64 0 :: Value.int .i64 0 :: Value.int .i64 0 :: Value.int .i64 0 :: Value.int .i64 0 :: Value.int .i64 0 :: Value.int .i64 0 :: Value.int .i64 0 :: Value.int .i64 0 :: Value.int .i64 0 :: Value.int .i64 0 :: Value.int .i64 0 :: Value.int .i64 0 :: Value.int .i64 0 :: Value.int .i64 0 :: Value.int .i64 0 :: Value.int .i64 0 :: Value.int .i64 0 :: Value.int .i64 0 :: Value.int .i64 0 :: Value.int .i64 0 :: Value.int .i64 0 :: Value.int .i64 0 :: Value.int .i64 0 :: Value.int .i64 0 :: Value.int .i64 0 :: Value.int .i64 0 :: Value.int .i64 0 :: Value.int .i64 0 :: Value.int .i64 0 :: Value.int .i64 0 :: Value.int .i64 0 :: Value.int .i64 0 :: Value.int .i64 0 :: Value.int .i64 0 :: Value.int .i64 0 :: Value.int .i64 0 :: Value.int .i64 0 :: Value.int .i64 0 :: [])) 22) = w3 at S0 S1 S2 S3 ⊢
  go_loopw [4] (fun i wr => ∃ n : Nat, n ≤ 64 ∧ i = .int .i64 (n : Int) ∧ rowB wr (w.heap.size + 1 + 1) 22 (upto (turn l) n) ∧ rowB wr (w.heap.size + 1) 22 (fun _ => 0) ∧ rowB wr w.heap.size 22 l ∧ Below w.heap.size w wr) (fun i _ => 64 - (intOf i).toNat)
  case atStart => exact ⟨0, by omega, rfl, S2.out, S1.out, S0.out, S3.out⟩
  case round =>
    obtain ⟨n, hn, rfl, h2, h1, h0, hbel⟩ := hrel
    have H0 := hide h0
    have H1 := hide h1
    have H2 := hide h2
    have HB := hide hbel
    by_cases hlt : (n : Int) < 64
    · have hn64 : n < 64 := by omega
      have g0 := h0.cell (i := 8 * (n % 8) + n / 8) (by omega)
      have gr := h2.cell hn64
      have gf := h2.frozen n
      have et : turn l n = l (8 * (n % 8) + n / 8) := rfl
      have ET := hide et
      have k1 : Int.tmod (n : Int) 8 = ((n % 8 : Nat) : Int) := by rw [Int.tmod_eq_emod_of_nonneg (by omega)]; omega
      have k2 : Int.tdiv (n : Int) 8 = ((n / 8 : Nat) : Int) := by rw [Int.tdiv_eq_ediv_of_nonneg (by omega)]; omega
      have b1 : ((n % 8 : Nat) : Int) < 8 := by omega
      have b2 : ((n / 8 : Nat) : Int) < 8 := by omega
      generalize l (8 * (n % 8) + n / 8) = v at *
      generalize n % 8 = nm at k1 b1 g0
      generalize n / 8 = nd at k2 b2 g0
      have wp2 : IntKind.i64.wrap (nd : Int) = (nd : Int) := by rw [IntKind.wrap_i64]; omega
      clear h0 h1 h2 hbel et
      go_wp2_with fail
      go_roundw
      case rel => exact ⟨n + 1, by omega, by go_num, (H2.out.set n _).congr (fun x _ => by rw [← ET.out]; exact upto_set (turn l) n x), H1.out.setOther (by simp) _, H0.out.setOther (by simp; omega) _, HB.out.setCell (by simp; omega) _⟩
      case measure => simp [intOf]; omega
    · have hn64 : n = 64 := by omega
      have hr := row_range (h2.congr (g := fun i => .int .i64 (turn l i)) (fun i hi => by rw [hn64, upto_all (turn l) hi]))
      have ht := row_there h1
      have HR := hide hr
      have HT := hide ht
      clear h0 h1 h2 hbel hr ht hn64
      go_wp2_with (first
        | (refine wpList_load_mid (op := ⟨some 19, _, _, _, _, _⟩) rfl 22 (.tmp 3) rfl (w.heap.size + 1 + 1) 0 rfl _ _ HR.out Tryd.underlying22 rfl (info22 _) ?_)
        | (refine wpList_store_mid (op := ⟨none, _, _, _, _, _⟩) rfl 22 (.tmp 2) (.tmp 19) rfl (w.heap.size + 1) 0 (vals (turn l)).toArray rfl rfl (by rw [vals_size]; exact HT.out) (by rw [vals_size]; exact size22) (all_oneCell_toArray (vals_one _)) ?_))
      exact bodyPost_ret (v := blkV (turn l)) (results_cell _ (w.heap.size + 1) (turn l) _ rfl rfl (World.rangeAt_setCells_same _ _ _ _ (by rw [vals_length]; exact HT.out)) Tryd.underlying22 rfl (info22 _)) rfl ⟨rfl, below_setCells (by omega) _ _ _ HB.out⟩
end Go.Proofs.YtimkedfdeghmnaaDoor
