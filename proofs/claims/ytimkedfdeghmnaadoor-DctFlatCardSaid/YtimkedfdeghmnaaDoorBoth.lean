/- The walks of Forward and Inverse. -/
import Derived.Test.YtimkedfdeghmnaaDoorPass
namespace Go.Proofs.YtimkedfdeghmnaaDoor
open Go.RowKit
set_option linter.unusedVariables false
set_option linter.unusedSimpArgs false
attribute [local go_sem] setCell_drewN alloc_drewN
attribute [local irreducible] wpList wpStill

section
variable {P : Program}
/-- A whole array or struct, by value, into the block that was made last; any cells. -/
theorem wpList_store_new {ops : Array Oper} {rest : List Oper} {op : Oper} {a : Act} {w : World} {Q : Exit → Act → World → Prop} (hgd : op.guard = none) (ty : TypeId) (x y : Operand) (ho : op.op = .store ty x y)
    (g : Nat) (hg : g = w.heap.size) (c c' : Array Value) (hx : a.eval x = .pointer (some ⟨g, 0, none⟩)) (hy : a.eval y = .agg c')
    (hi : (P.info? ty).map (·.size) = some c'.size) (hs : c.size = c'.size) (h1 : c'.all (·.oneCell') = true)
    (h : wpList P ops Q rest (a.put op.dst undef) (w.alloc (.cells c' ty))) : wpList P ops Q (op :: rest) a (w.alloc (.cells c ty)) :=
  wpList_plain hgd fun K hK => by
    subst hg
    unfold Oper.wp execOp
    simp only [ho, hx, hy, Sem.run_bind, run_storeAt_new w ty c c' hi hs h1, Result.andThen_ok]
    exact hK _ _ h
end

theorem pass_bd_fore {a : Nat → Int} {M : Int} (hM : 0 ≤ M) (ha : ∀ i, i < 64 → -M ≤ a i ∧ a i ≤ M) (i : Nat) (hi : i < 64) : -(712 * M) ≤ passF (fore1 a) i ∧ passF (fore1 a) i ≤ 712 * M := by
  have h := dot_bd (u := fun j => wt (i / 8) j) (a := a) hM (fun j => wt_bd _ _) (i % 8) 8 (fun j hj => ha _ (by omega)) (by omega)
  have e : ((8 : Nat) : Int) * (89 * M) = 712 * M := by omega
  rw [e] at h
  exact h
theorem pass_bd_back {a : Nat → Int} {M : Int} (hM : 0 ≤ M) (ha : ∀ i, i < 64 → -M ≤ a i ∧ a i ≤ M) (i : Nat) (hi : i < 64) : -(712 * M) ≤ passF (back1 a) i ∧ passF (back1 a) i ≤ 712 * M := by
  have h := dot_bd (u := fun j => wt j (i / 8)) (a := a) hM (fun j => wt_bd _ _) (i % 8) 8 (fun j hj => ha _ (by omega)) (by omega)
  have e : ((8 : Nat) : Int) * (89 * M) = 712 * M := by omega
  rw [e] at h
  exact h

set_option maxHeartbeats 2000000 in
set_option maxRecDepth 100000 in
theorem fwd_call (l : Nat → Int) (w : World) (hw : HasW w) : Calls Tryd.prog 7 #[blkV l] w fun e w' => e = .returned (blkV (fwd l)) ∧ Below w.heap.size w w' := by
  have HW := hide hw
  clear hw
  have c13 := hide (fun W => within_call l W)
  have c16 := hide (fun W => rounded_call (fwdS l) (-2048) 2047 W)
  have p1 := hide (fun b W (h1 : HasW W) (h2 : HasB W b (held l)) => pass_fore b (fore1 (held l)) W (fun W' hb line k hl hk => fore_call b (held l) 2048 line k W' (h1.below hb) (h2.below hb) (by omega) (by omega) (fun i hi => by have := held_bd l i; omega) hl hk))
  have p2 := hide (fun b W (h1 : HasW W) (h2 : HasB W b (passF (fore1 (held l)))) => pass_fore b (fore1 (passF (fore1 (held l)))) W (fun W' hb line k hl hk => fore_call b (passF (fore1 (held l))) 1458176 line k W' (h1.below hb) (h2.below hb) (by omega) (by omega) (fun i hi => by have := pass_bd_fore (a := held l) (M := 2048) (by omega) (fun i _ => by have := held_bd l i; omega) i hi; omega) hl hk))
  have e2 : passF (fore1 (passF (fore1 (held l)))) = fwdS l := rfl
  rw [e2] at p2
  have e3 : (fun i => clip (round (fwdS l i) 15) (-2048) 2047) = fwd l := rfl
  rw [e3] at c16
  generalize fwdS l = S at p2 c16
  generalize fwd l = D at c16 ⊢
  generalize hq1 : passF (fore1 (held l)) = Q1 at p1 p2
  generalize held l = A at c13 p1
  unfold blkV at c13 c16 p1 p2 ⊢
  have hb0 := hide (row_range ((row_box w 22 l).alloc (.cells (List.toArray (Value.int .i64 0 :: Value.int .i64 0 :: Value.int .i64 0 :: Value.int .i64 0 :: Value.int .i64 0 :: Value.int .i64 0 :: Value.int .i64 0 :: Value.int .i64 0 :: Value.int .i64 0 :: Value.int .i64 0 :: Value.int .i64 0 :: Value.int .i64 0 :: Value.int .i64 0 :: Value.int .i64 0 :: Value.int .i64 0 :: Value.int .i64 0 :: Value.int .i64 0 :: Value.int .i64 0 :: Value.int .i64 0 :: Value.int .i64 0 :: Value.int .i64 0 :: Value.int .i64 0 :: Value.int .i64 0 :: Value.int .i64 0 :: Value.int .i64 0 :: Value.int .i64 0 :: Value.int .i64 0 :: Value.int .i64 0 :: Value.int .i64 0 :: Value.int .i64 0 :: Value.int .i64 0 :: Value.int .i64 0 :: Value.int .i64 0 :: Value.int .i64 0 :: Value.int .i64 0 :: Value.int .i64 0 :: Value.int .i64 0 :: Value.int .i64 0 :: Value.int .i64 0 :: Value.int .i64 0 :: Value.int .i64 0 :: Value.int .i64 0 :: Value.int .i64 0 :: Value.int .i64 0 :: Value.int .i64 0 :: Value.int .i64 0 :: Value.int .i64 0 :: Value.int .i64 0 :: Value.int .i64 0 :: Value.int .i64 0 :: Value.int .i64 0 :: Value.int .i64 0 :: Value.int .i64 0 :: Value.int .i64 0 :: Value.int .i64 0 :: Value.int .i64 0 :: Value.int .i64 0 :: Value.int .i64 0 :: Value.int .i64 0 :: Value.int .i64 0 :: Value.int .i64 0 :: Value.int .i64 0 :: Value.int .i64 0 :: Value.int .i64 0 :: [])) 22)))
  have hr1 := row_zero (w.alloc (.cells (vals l).toArray 22)) 22
  have e : ∀ (w : World) (o : Obj), (w.alloc o).heap.size = w.heap.size + 1 := fun w o => by simp
  rw [e] at hr1
  have S1 := hide hr1
  have S3 := hide (below_alloc (below_alloc (Below.refl w.heap.size w) (.cells (vals l).toArray 22)) (.cells (List.toArray (Value.int .i64 0 :: Value.int .i64 0 :: Value.int .i64 0 :: Value.int .i64 0 :: Value.int .i64 0 :: Value.int .i64 0 :: Value.int .i64 0 :: Value.int .i64 0 :: Value.int .i64 0 :: Value.int .i64 0 :: Value.int .i64 0 :: Value.int .i64 0 :: Value.int .i64 0 :: Value.int .i64 0 :: Value.int .i64 0 :: Value.int .i64 0 :: Value.int .i64 0 :: Value.int .i64 0 :: Value.int .i64 0 :: Value.int .i64 0 :: Value.int .i64 0 :: Value.int .i64 0 :: Value.int .i64 0 :: Value.int .i64 0 :: Value.int .i64 0 :: Value.int .i64 0 :: Value.int .i64 0 :: Value.int .i64 0 :: Value.int .i64 0 :: Value.int .i64 0 :: Value.int .i64 0 :: Value.int .i64 0 :: Value.int .i64 0 :: Value.int .i64 0 :: Value.int .i64 0 :: Value.int .i64 0 :: Value.int .i64 0 :: Value.int .i64 0 :: Value.int .i64 0 :: Value.int .i64 0 :: Value.int .i64 0 :: Value.int .i64 0 :: Value.int .i64 0 :: Value.int .i64 0 :: Value.int .i64 0 :: Value.int .i64 0 :: Value.int .i64 0 :: Value.int .i64 0 :: Value.int .i64 0 :: Value.int .i64 0 :: Value.int .i64 0 :: Value.int .i64 0 :: Value.int .i64 0 :: Value.int .i64 0 :: Value.int .i64 0 :: Value.int .i64 0 :: Value.int .i64 0 :: Value.int .i64 0 :: Value.int .i64 0 :: Value.int .i64 0 :: Value.int .i64 0 :: Value.int .i64 0 :: Value.int .i64 0 :: Value.int .i64 0 :: [])) 22))
  clear hr1
  go_enter Tryd.func7, Tryd.ntmps7
  go_wp2_with (refine wpList_load_mid (op := ⟨some 5, _, _, _, _, _⟩) rfl 22 (.tmp 1) rfl w.heap.size 0 rfl _ _ hb0.out Tryd.underlying22 rfl (info22 l) ?_)
  clear hb0
  generalize (w.alloc (.cells (vals l).toArray 22)).alloc (.cells (List.toArray (Value.int .i64 0 :: Value.int .i64 0 :: Value.int .i64 0 :: Value.int .i64 0 :: Value.int .i64 0 :: Value.int .i64 0 :: Value.int .i64 0 :: Value.int .i64 0 :: Value.int .i64 0 :: Value.int .i64 0 :: Value.int .i64 0 :: Value.int .i64 0 :: Value.int .i64 0 :: Value.int .i64 0 :: Value.int .i64 0 :: Value.int .i64 0 :: Value.int .i64 0 :: Value.int .i64 0 :: Value.int .i64 0 :: Value.int .i64 0 :: Value.int .i64 0 :: Value.int .i64 0 :: Value.int .i64 0 :: Value.int .i64 0 :: Value.int .i64 0 :: Value.int .i64 0 :: Value.int .i64 0 :: Value.int .i64 0 :: Value.int .i64 0 :: Value.int .i64 0 :: Value.int .i64 0 :: Value.int .i64 0 :: Value.int .i64 0 :: Value.int .i64 0 :: Value.int .i64 0 :: Value.int .i64 0 :: Value.int .i64 0 :: Value.int .i64 0 :: Value.int .i64 0 :: Value.int .i64 0 :: Value.int .i64 0 :: Value.int .i64 0 :: Value.int .i64 0 :: Value.int .i64 0 :: Value.int .i64 0 :: Value.int .i64 0 :: Value.int .i64 0 :: Value.int .i64 0 :: Value.int .i64 0 :: Value.int .i64 0 :: Value.int .i64 0 :: Value.int .i64 0 :: Value.int .i64 0 :: Value.int .i64 0 :: Value.int .i64 0 :: Value.int .i64 0 :: Value.int .i64 0 :: Value.int .i64 0 :: Value.int .i64 0 :: Value.int .i64 0 :: Value.int .i64 0 :: Value.int .i64 0 :: Value.int .i64 0 :: Value.int .i64 0 :: [])) 22) = w0 at S1 S3 ⊢
  refine (c13.out w0).mono ?_
  rintro e1 w1 ⟨rfl, hb1⟩
  have S4 := hide (row_below S1.out hb1)
  have B1 := hide (bstep S3.out hb1)
  clear hb1 S1 S3
  go_wp2_with (refine wpList_store_new (op := ⟨none, _, _, _, _, _⟩) rfl 27 (.tmp 3) (.tmp 6) rfl w1.heap.size rfl _ (vals A).toArray rfl rfl (by rw [vals_size]; exact size27) (by rw [vals_size]; rfl) (all_oneCell_toArray (vals_one _)) ?_)
  have S5 := hide (S4.out.alloc (.cells (vals A).toArray 27))
  have B2 := hide (below_alloc B1.out (.cells (vals A).toArray 27))
  have hA := row_hasB (row_box w1 27 A)
  clear S4 B1
  generalize w1.alloc (.cells (vals A).toArray 27) = w2 at S5 B2 hA ⊢
  refine (p1.out _ w2 (HW.out.below B2.out) hA).mono ?_
  rintro e2 w3 ⟨rfl, hb3⟩
  have S6 := hide (row_below S5.out hb3)
  have B3 := hide (bstep B2.out hb3)
  clear hb3 S5 B2 hA
  go_wp2_with (refine wpList_store_new (op := ⟨none, _, _, _, _, _⟩) rfl 27 (.tmp 4) (.tmp 8) rfl w3.heap.size rfl _ (vals Q1).toArray rfl rfl (by rw [vals_size]; exact size27) (by rw [vals_size]; rfl) (all_oneCell_toArray (vals_one _)) ?_)
  have S7 := hide (S6.out.alloc (.cells (vals Q1).toArray 27))
  have B4 := hide (below_alloc B3.out (.cells (vals Q1).toArray 27))
  have hQ := row_hasB (row_box w3 27 Q1)
  clear S6 B3
  generalize w3.alloc (.cells (vals Q1).toArray 27) = w4 at S7 B4 hQ ⊢
  refine (p2.out _ w4 (HW.out.below B4.out) hQ).mono ?_
  rintro e3 w5 ⟨rfl, hb5⟩
  have S8 := hide (row_below S7.out hb5)
  have B5 := hide (bstep B4.out hb5)
  clear hb5 S7 B4 hQ
  go_wp2_with fail
  refine (c16.out w5).mono ?_
  rintro e4 w6 ⟨rfl, hb6⟩
  have HT := hide (row_there (row_below S8.out hb6))
  have B6 := hide (bstep B5.out hb6)
  clear hb6 S8 B5
  go_wp2_with (refine wpList_store_mid (op := ⟨none, _, _, _, _, _⟩) rfl 22 (.tmp 2) (.tmp 11) rfl (w.heap.size + 1) 0 (vals D).toArray rfl rfl (by rw [vals_size]; exact HT.out) (by rw [vals_size]; exact size22) (all_oneCell_toArray (vals_one _)) ?_)
  exact bodyPost_ret (v := blkV D) (results_cell _ (w.heap.size + 1) D _ rfl rfl (World.rangeAt_setCells_same _ _ _ _ (by rw [vals_length]; exact HT.out)) Tryd.underlying22 rfl (info22 _)) rfl ⟨rfl, below_setCells (by omega) _ _ _ B6.out⟩

set_option maxHeartbeats 2000000 in
set_option maxRecDepth 100000 in
theorem inv_call (l : Nat → Int) (w : World) (hw : HasW w) : Calls Tryd.prog 10 #[blkV l] w fun e w' => e = .returned (blkV (inv l)) ∧ Below w.heap.size w w' := by
  have HW := hide hw
  clear hw
  have c13 := hide (fun W => within_call l W)
  have c16 := hide (fun W => rounded_call (invS l) (-256) 255 W)
  have p1 := hide (fun b W (h1 : HasW W) (h2 : HasB W b (held l)) => pass_back b (back1 (held l)) W (fun W' hb line k hl hk => back_call b (held l) 2048 line k W' (h1.below hb) (h2.below hb) (by omega) (by omega) (fun i hi => by have := held_bd l i; omega) hl hk))
  have p2 := hide (fun b W (h1 : HasW W) (h2 : HasB W b (passF (back1 (held l)))) => pass_back b (back1 (passF (back1 (held l)))) W (fun W' hb line k hl hk => back_call b (passF (back1 (held l))) 1458176 line k W' (h1.below hb) (h2.below hb) (by omega) (by omega) (fun i hi => by have := pass_bd_back (a := held l) (M := 2048) (by omega) (fun i _ => by have := held_bd l i; omega) i hi; omega) hl hk))
  have e2 : passF (back1 (passF (back1 (held l)))) = invS l := rfl
  rw [e2] at p2
  have e3 : (fun i => clip (round (invS l i) 15) (-256) 255) = inv l := rfl
  rw [e3] at c16
  generalize invS l = S at p2 c16
  generalize inv l = D at c16 ⊢
  generalize hq1 : passF (back1 (held l)) = Q1 at p1 p2
  generalize held l = A at c13 p1
  unfold blkV at c13 c16 p1 p2 ⊢
  have hb0 := hide (row_range ((row_box w 22 l).alloc (.cells (List.toArray (Value.int .i64 0 :: Value.int .i64 0 :: Value.int .i64 0 :: Value.int .i64 0 :: Value.int .i64 0 :: Value.int .i64 0 :: Value.int .i64 0 :: Value.int .i64 0 :: Value.int .i64 0 :: Value.int .i64 0 :: Value.int .i64 0 :: Value.int .i64 0 :: Value.int .i64 0 :: Value.int .i64 0 :: Value.int .i64 0 :: Value.int .i64 0 :: Value.int .i64 0 :: Value.int .i64 0 :: Value.int .i64 0 :: Value.int .i64 0 :: Value.int .i64 0 :: Value.int .i64 0 :: Value.int .i64 0 :: Value.int .i64 0 :: Value.int .i64 0 :: Value.int .i64 0 :: Value.int .i64 0 :: Value.int .i64 0 :: Value.int .i64 0 :: Value.int .i64 0 :: Value.int .i64 0 :: Value.int .i64 0 :: Value.int .i64 0 :: Value.int .i64 0 :: Value.int .i64 0 :: Value.int .i64 0 :: Value.int .i64 0 :: Value.int .i64 0 :: Value.int .i64 0 :: Value.int .i64 0 :: Value.int .i64 0 :: Value.int .i64 0 :: Value.int .i64 0 :: Value.int .i64 0 :: Value.int .i64 0 :: Value.int .i64 0 :: Value.int .i64 0 :: Value.int .i64 0 :: Value.int .i64 0 :: Value.int .i64 0 :: Value.int .i64 0 :: Value.int .i64 0 :: Value.int .i64 0 :: Value.int .i64 0 :: Value.int .i64 0 :: Value.int .i64 0 :: Value.int .i64 0 :: Value.int .i64 0 :: Value.int .i64 0 :: Value.int .i64 0 :: Value.int .i64 0 :: Value.int .i64 0 :: Value.int .i64 0 :: Value.int .i64 0 :: [])) 22)))
  have hr1 := row_zero (w.alloc (.cells (vals l).toArray 22)) 22
  have e : ∀ (w : World) (o : Obj), (w.alloc o).heap.size = w.heap.size + 1 := fun w o => by simp
  rw [e] at hr1
  have S1 := hide hr1
  have S3 := hide (below_alloc (below_alloc (Below.refl w.heap.size w) (.cells (vals l).toArray 22)) (.cells (List.toArray (Value.int .i64 0 :: Value.int .i64 0 :: Value.int .i64 0 :: Value.int .i64 0 :: Value.int .i64 0 :: Value.int .i64 0 :: Value.int .i64 0 :: Value.int .i64 0 :: Value.int .i64 0 :: Value.int .i64 0 :: Value.int .i64 0 :: Value.int .i64 0 :: Value.int .i64 0 :: Value.int .i64 0 :: Value.int .i64 0 :: Value.int .i64 0 :: Value.int .i64 0 :: Value.int .i64 0 :: Value.int .i64 0 :: Value.int .i64 0 :: Value.int .i64 0 :: Value.int .i64 0 :: Value.int .i64 0 :: Value.int .i64 0 :: Value.int .i64 0 :: Value.int .i64 0 :: Value.int .i64 0 :: Value.int .i64 0 :: Value.int .i64 0 :: Value.int .i64 0 :: Value.int .i64 0 :: Value.int .i64 0 :: Value.int .i64 0 :: Value.int .i64 0 :: Value.int .i64 0 :: Value.int .i64 0 :: Value.int .i64 0 :: Value.int .i64 0 :: Value.int .i64 0 :: Value.int .i64 0 :: Value.int .i64 0 :: Value.int .i64 0 :: Value.int .i64 0 :: Value.int .i64 0 :: Value.int .i64 0 :: Value.int .i64 0 :: Value.int .i64 0 :: Value.int .i64 0 :: Value.int .i64 0 :: Value.int .i64 0 :: Value.int .i64 0 :: Value.int .i64 0 :: Value.int .i64 0 :: Value.int .i64 0 :: Value.int .i64 0 :: Value.int .i64 0 :: Value.int .i64 0 :: Value.int .i64 0 :: Value.int .i64 0 :: Value.int .i64 0 :: Value.int .i64 0 :: Value.int .i64 0 :: Value.int .i64 0 :: Value.int .i64 0 :: [])) 22))
  clear hr1
  go_enter Tryd.func10, Tryd.ntmps10
  go_wp2_with (refine wpList_load_mid (op := ⟨some 5, _, _, _, _, _⟩) rfl 22 (.tmp 1) rfl w.heap.size 0 rfl _ _ hb0.out Tryd.underlying22 rfl (info22 l) ?_)
  clear hb0
  generalize (w.alloc (.cells (vals l).toArray 22)).alloc (.cells (List.toArray (Value.int .i64 0 :: Value.int .i64 0 :: Value.int .i64 0 :: Value.int .i64 0 :: Value.int .i64 0 :: Value.int .i64 0 :: Value.int .i64 0 :: Value.int .i64 0 :: Value.int .i64 0 :: Value.int .i64 0 :: Value.int .i64 0 :: Value.int .i64 0 :: Value.int .i64 0 :: Value.int .i64 0 :: Value.int .i64 0 :: Value.int .i64 0 :: Value.int .i64 0 :: Value.int .i64 0 :: Value.int .i64 0 :: Value.int .i64 0 :: Value.int .i64 0 :: Value.int .i64 0 :: Value.int .i64 0 :: Value.int .i64 0 :: Value.int .i64 0 :: Value.int .i64 0 :: Value.int .i64 0 :: Value.int .i64 0 :: Value.int .i64 0 :: Value.int .i64 0 :: Value.int .i64 0 :: Value.int .i64 0 :: Value.int .i64 0 :: Value.int .i64 0 :: Value.int .i64 0 :: Value.int .i64 0 :: Value.int .i64 0 :: Value.int .i64 0 :: Value.int .i64 0 :: Value.int .i64 0 :: Value.int .i64 0 :: Value.int .i64 0 :: Value.int .i64 0 :: Value.int .i64 0 :: Value.int .i64 0 :: Value.int .i64 0 :: Value.int .i64 0 :: Value.int .i64 0 :: Value.int .i64 0 :: Value.int .i64 0 :: Value.int .i64 0 :: Value.int .i64 0 :: Value.int .i64 0 :: Value.int .i64 0 :: Value.int .i64 0 :: Value.int .i64 0 :: Value.int .i64 0 :: Value.int .i64 0 :: Value.int .i64 0 :: Value.int .i64 0 :: Value.int .i64 0 :: Value.int .i64 0 :: Value.int .i64 0 :: Value.int .i64 0 :: [])) 22) = w0 at S1 S3 ⊢
  refine (c13.out w0).mono ?_
  rintro e1 w1 ⟨rfl, hb1⟩
  have S4 := hide (row_below S1.out hb1)
  have B1 := hide (bstep S3.out hb1)
  clear hb1 S1 S3
  go_wp2_with (refine wpList_store_new (op := ⟨none, _, _, _, _, _⟩) rfl 27 (.tmp 3) (.tmp 6) rfl w1.heap.size rfl _ (vals A).toArray rfl rfl (by rw [vals_size]; exact size27) (by rw [vals_size]; rfl) (all_oneCell_toArray (vals_one _)) ?_)
  have S5 := hide (S4.out.alloc (.cells (vals A).toArray 27))
  have B2 := hide (below_alloc B1.out (.cells (vals A).toArray 27))
  have hA := row_hasB (row_box w1 27 A)
  clear S4 B1
  generalize w1.alloc (.cells (vals A).toArray 27) = w2 at S5 B2 hA ⊢
  refine (p1.out _ w2 (HW.out.below B2.out) hA).mono ?_
  rintro e2 w3 ⟨rfl, hb3⟩
  have S6 := hide (row_below S5.out hb3)
  have B3 := hide (bstep B2.out hb3)
  clear hb3 S5 B2 hA
  go_wp2_with (refine wpList_store_new (op := ⟨none, _, _, _, _, _⟩) rfl 27 (.tmp 4) (.tmp 8) rfl w3.heap.size rfl _ (vals Q1).toArray rfl rfl (by rw [vals_size]; exact size27) (by rw [vals_size]; rfl) (all_oneCell_toArray (vals_one _)) ?_)
  have S7 := hide (S6.out.alloc (.cells (vals Q1).toArray 27))
  have B4 := hide (below_alloc B3.out (.cells (vals Q1).toArray 27))
  have hQ := row_hasB (row_box w3 27 Q1)
  clear S6 B3
  generalize w3.alloc (.cells (vals Q1).toArray 27) = w4 at S7 B4 hQ ⊢
  refine (p2.out _ w4 (HW.out.below B4.out) hQ).mono ?_
  rintro e3 w5 ⟨rfl, hb5⟩
  have S8 := hide (row_below S7.out hb5)
  have B5 := hide (bstep B4.out hb5)
  clear hb5 S7 B4 hQ
  go_wp2_with fail
  refine (c16.out w5).mono ?_
  rintro e4 w6 ⟨rfl, hb6⟩
  have HT := hide (row_there (row_below S8.out hb6))
  have B6 := hide (bstep B5.out hb6)
  clear hb6 S8 B5
  go_wp2_with (refine wpList_store_mid (op := ⟨none, _, _, _, _, _⟩) rfl 22 (.tmp 2) (.tmp 11) rfl (w.heap.size + 1) 0 (vals D).toArray rfl rfl (by rw [vals_size]; exact HT.out) (by rw [vals_size]; exact size22) (all_oneCell_toArray (vals_one _)) ?_)
  exact bodyPost_ret (v := blkV D) (results_cell _ (w.heap.size + 1) D _ rfl rfl (World.rangeAt_setCells_same _ _ _ _ (by rw [vals_length]; exact HT.out)) Tryd.underlying22 rfl (info22 _)) rfl ⟨rfl, below_setCells (by omega) _ _ _ B6.out⟩
end Go.Proofs.YtimkedfdeghmnaaDoor
