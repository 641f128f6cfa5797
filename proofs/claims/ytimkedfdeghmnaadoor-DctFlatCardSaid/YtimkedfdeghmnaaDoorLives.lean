/- The chapter's examples of dct. -/
import Derived.Test.YtimkedfdeghmnaaDoorTurned
namespace Go.Proofs.YtimkedfdeghmnaaDoor
open Go.RowKit
set_option linter.unusedVariables false
set_option linter.unusedSimpArgs false
attribute [local go_sem] setCell_drewN alloc_drewN
attribute [local irreducible] wpList wpStill

theorem vals_ints (f : Nat → Int) : vals f = ((List.range 64).map f).map (Value.int .i64) := by unfold vals; rw [List.map_map]; rfl
theorem run_eq_two (f g : Nat → Int) (w : World) : (Op.equalIn 10000 22 (.agg (vals f).toArray) (.agg (vals g).toArray)).run Tryd.prog w = .ok ((List.range 64).map f == (List.range 64).map g) w := by
  have h := run_equalIn_nums (P := Tryd.prog) w 9998 22 3 64 .i64 Tryd.underlying22 Tryd.underlying3 (fun _ => by kernel_rfl) ((List.range 64).map f) ((List.range 64).map g) (by simp) (by simp)
  rw [← vals_ints, ← vals_ints] at h
  exact h
theorem run_eq_blk (f : Nat → Int) (w : World) : (Op.equalIn 10000 22 (.agg (vals f).toArray) (.agg (vals f).toArray)).run Tryd.prog w = .ok true w := by
  rw [run_eq_two, show ((List.range 64).map f == (List.range 64).map f) = true by simp]

def l80 (i : Nat) : Int := if i = 0 then 80 else 0
def ten (_ : Nat) : Int := 10
theorem l80_cells : ((List.toArray (Value.int .i64 80 :: Value.int .i64 0 :: Value.int .i64 0 :: Value.int .i64 0 :: Value.int .i64 0 :: Value.int .i64 0 :: Value.int .i64 0 :: Value.int .i64 0 :: Value.int .i64 0 :: Value.int .i64 0 :: Value.int .i64 0 :: Value.int .i64 0 :: Value.int .i64 0 :: Value.int .i64 0 :: Value.int .i64 0 :: Value.int .i64 0 :: Value.int .i64 0 :: Value.int .i64 0 :: Value.int .i64 0 :: Value.int .i64 0 :: Value.int .i64 0 :: Value.int .i64 0 :: Value.int .i64 0 :: Value.int .i64 0 :: Value.int .i64 0 :: Value.int .i64 0 :: Value.int .i64 0 :: Value.int .i64 0 :: Value.int .i64 0 :: Value.int .i64 0 :: Value.int .i64 0 :: Value.int .i64 0 :: Value.int .i64 0 :: Value.int .i64 0 :: Value.int .i64 0 :: Value.int .i64 0 :: Value.int .i64 0 :: Value.int .i64 0 :: Value.int .i64 0 :: Value.int .i64 0 :: Value.int .i64 0 :: Value.int .i64 0 :: Value.int .i64 0 :: Value.int .i64 0 :: Value.int .i64 0 :: Value.int .i64 0 :: Value.int .i64 0 :: Value.int .i64 0 :: Value.int .i64 0 :: Value.int .i64 0 :: Value.int .i64 0 :: Value.int .i64 0 :: Value.int .i64 0 :: Value.int .i64 0 :: Value.int .i64 0 :: Value.int .i64 0 :: Value.int .i64 0 :: Value.int .i64 0 :: Value.int .i64 0 :: Value.int .i64 0 :: Value.int .i64 0 :: Value.int .i64 0 :: Value.int .i64 0 :: Value.int .i64 0 :: [])) : Array Value) = (vals l80).toArray := by kernel_rfl
theorem run_eq_80 (L : Nat → Int) (h : ((List.toArray (Value.int .i64 80 :: Value.int .i64 0 :: Value.int .i64 0 :: Value.int .i64 0 :: Value.int .i64 0 :: Value.int .i64 0 :: Value.int .i64 0 :: Value.int .i64 0 :: Value.int .i64 0 :: Value.int .i64 0 :: Value.int .i64 0 :: Value.int .i64 0 :: Value.int .i64 0 :: Value.int .i64 0 :: Value.int .i64 0 :: Value.int .i64 0 :: Value.int .i64 0 :: Value.int .i64 0 :: Value.int .i64 0 :: Value.int .i64 0 :: Value.int .i64 0 :: Value.int .i64 0 :: Value.int .i64 0 :: Value.int .i64 0 :: Value.int .i64 0 :: Value.int .i64 0 :: Value.int .i64 0 :: Value.int .i64 0 :: Value.int .i64 0 :: Value.int .i64 0 :: Value.int .i64 0 :: Value.int .i64 0 :: Value.int .i64 0 :: Value.int .i64 0 :: Value.int .i64 0 :: Value.int .i64 0 :: Value.int .i64 0 :: Value.int .i64 0 :: Value.int .i64 0 :: Value.int .i64 0 :: Value.int .i64 0 :: Value.int .i64 0 :: Value.int .i64 0 :: Value.int .i64 0 :: Value.int .i64 0 :: Value.int .i64 0 :: Value.int .i64 0 :: Value.int .i64 0 :: Value.int .i64 0 :: Value.int .i64 0 :: Value.int .i64 0 :: Value.int .i64 0 :: Value.int .i64 0 :: Value.int .i64 0 :: Value.int .i64 0 :: Value.int .i64 0 :: Value.int .i64 0 :: Value.int .i64 0 :: Value.int .i64 0 :: Value.int .i64 0 :: Value.int .i64 0 :: Value.int .i64 0 :: Value.int .i64 0 :: Value.int .i64 0 :: [])) : Array Value) = (vals L).toArray) (w : World) : (Op.equalIn 10000 22 (.agg (vals L).toArray) (.agg (List.toArray (Value.int .i64 80 :: Value.int .i64 0 :: Value.int .i64 0 :: Value.int .i64 0 :: Value.int .i64 0 :: Value.int .i64 0 :: Value.int .i64 0 :: Value.int .i64 0 :: Value.int .i64 0 :: Value.int .i64 0 :: Value.int .i64 0 :: Value.int .i64 0 :: Value.int .i64 0 :: Value.int .i64 0 :: Value.int .i64 0 :: Value.int .i64 0 :: Value.int .i64 0 :: Value.int .i64 0 :: Value.int .i64 0 :: Value.int .i64 0 :: Value.int .i64 0 :: Value.int .i64 0 :: Value.int .i64 0 :: Value.int .i64 0 :: Value.int .i64 0 :: Value.int .i64 0 :: Value.int .i64 0 :: Value.int .i64 0 :: Value.int .i64 0 :: Value.int .i64 0 :: Value.int .i64 0 :: Value.int .i64 0 :: Value.int .i64 0 :: Value.int .i64 0 :: Value.int .i64 0 :: Value.int .i64 0 :: Value.int .i64 0 :: Value.int .i64 0 :: Value.int .i64 0 :: Value.int .i64 0 :: Value.int .i64 0 :: Value.int .i64 0 :: Value.int .i64 0 :: Value.int .i64 0 :: Value.int .i64 0 :: Value.int .i64 0 :: Value.int .i64 0 :: Value.int .i64 0 :: Value.int .i64 0 :: Value.int .i64 0 :: Value.int .i64 0 :: Value.int .i64 0 :: Value.int .i64 0 :: Value.int .i64 0 :: Value.int .i64 0 :: Value.int .i64 0 :: Value.int .i64 0 :: Value.int .i64 0 :: Value.int .i64 0 :: Value.int .i64 0 :: Value.int .i64 0 :: Value.int .i64 0 :: Value.int .i64 0 :: Value.int .i64 0 :: [])))).run Tryd.prog w = .ok true w := by
  rw [h]; exact run_eq_blk L w
theorem inv80 : vals (inv l80) = vals ten := by
  rw [vals_ints, vals_ints, show (List.range 64).map (inv l80) = (List.range 64).map ten by decide +kernel]
theorem fwd10 : vals (fwd ten) = vals l80 := by
  rw [vals_ints, vals_ints, show (List.range 64).map (fwd ten) = (List.range 64).map l80 by decide +kernel]

section
variable {P : Program}
/-- A whole array or struct by value out of memory, at an operation whose guard says yes. -/
theorem wpList_load_want {ops : Array Oper} {rest : List Oper} {op : Oper} {a : Act} {w : World} {Q : Exit → Act → World → Prop} (hw : Region.wanted op (yielded ops a.tmps) = true) (ty : TypeId) (x : Operand) (ho : op.op = .load ty x)
    (b o : Nat) (hx : a.eval x = .pointer (some ⟨b, o, none⟩)) (cs : List Value) (d : TypeDesc) (hc : w.rangeAt b o cs)
    (hu : P.underlying ty = some d) (hd : d.isRow = true) (hi : (P.info? ty).map (·.size) = some cs.length)
    (h : wpList P ops Q rest (a.put op.dst (.agg cs.toArray)) w) : wpList P ops Q (op :: rest) a w :=
  BigFrame.wpList_want hw fun _ hK => wp_load_mid ty x ho b o hx cs d hc hu hd hi (hK _ _ h)
end
set_option maxHeartbeats 400000 in
set_option maxRecDepth 100000 in
theorem lives_core (t L : Nat → Int) (w : World) (hw : Hid (HasW w)) (hb : Hid (((List.toArray (Value.int .i64 80 :: Value.int .i64 0 :: Value.int .i64 0 :: Value.int .i64 0 :: Value.int .i64 0 :: Value.int .i64 0 :: Value.int .i64 0 :: Value.int .i64 0 :: Value.int .i64 0 :: Value.int .i64 0 :: Value.int .i64 0 :: Value.int .i64 0 :: Value.int .i64 0 :: Value.int .i64 0 :: Value.int .i64 0 :: Value.int .i64 0 :: Value.int .i64 0 :: Value.int .i64 0 :: Value.int .i64 0 :: Value.int .i64 0 :: Value.int .i64 0 :: Value.int .i64 0 :: Value.int .i64 0 :: Value.int .i64 0 :: Value.int .i64 0 :: Value.int .i64 0 :: Value.int .i64 0 :: Value.int .i64 0 :: Value.int .i64 0 :: Value.int .i64 0 :: Value.int .i64 0 :: Value.int .i64 0 :: Value.int .i64 0 :: Value.int .i64 0 :: Value.int .i64 0 :: Value.int .i64 0 :: Value.int .i64 0 :: Value.int .i64 0 :: Value.int .i64 0 :: Value.int .i64 0 :: Value.int .i64 0 :: Value.int .i64 0 :: Value.int .i64 0 :: Value.int .i64 0 :: Value.int .i64 0 :: Value.int .i64 0 :: Value.int .i64 0 :: Value.int .i64 0 :: Value.int .i64 0 :: Value.int .i64 0 :: Value.int .i64 0 :: Value.int .i64 0 :: Value.int .i64 0 :: Value.int .i64 0 :: Value.int .i64 0 :: Value.int .i64 0 :: Value.int .i64 0 :: Value.int .i64 0 :: Value.int .i64 0 :: Value.int .i64 0 :: Value.int .i64 0 :: Value.int .i64 0 :: Value.int .i64 0 :: Value.int .i64 0 :: [])) : Array Value) = (vals L).toArray)) (h0 : Hid (t 0 = 10)) (h63 : Hid (t 63 = 10))
    (c10 : Hid (∀ W, HasW W → Calls Tryd.prog 10 #[.agg (vals L).toArray] W fun e w' => e = .returned (.agg (vals t).toArray) ∧ Below W.heap.size W w'))
    (c7 : Hid (∀ W, HasW W → Calls Tryd.prog 7 #[.agg (vals t).toArray] W fun e w' => e = .returned (.agg (vals L).toArray) ∧ Below W.heap.size W w')) :
    Calls Tryd.prog 9 #[] w fun e w' => e = .returned (.bool true) ∧ Below w.heap.size w w' := by
  go_enter Tryd.func9, Tryd.ntmps9
  go_wp2_with fail
  rw [hb.out]
  refine (c10.out _ hw.out).mono ?_
  rintro e1 w1 ⟨rfl, hb1⟩
  have HB1 := hide hb1
  have hrow := row_box w1 22 t
  have HR := hide (row_range hrow)
  have g0 := hrow.cell (i := 0) (by omega)
  have g63 := hrow.cell (i := 63) (by omega)
  rw [h0.out] at g0
  rw [h63.out] at g63
  have HB2 := hide (below_alloc HB1.out (.cells (vals t).toArray 22))
  have hww := hide (hw.out.below HB2.out)
  have eqw := run_eq_80 L hb.out
  clear hb1 hrow HB1
  go_wp2_with (first
    | (refine wpList_store_new (op := ⟨none, _, _, _, _, _⟩) rfl 22 (.tmp 1) (.tmp 3) rfl w1.heap.size rfl _ (vals t).toArray rfl rfl (by rw [vals_size]; exact size22) (by rw [vals_size]; rfl) (all_oneCell_toArray (vals_one _)) ?_)
    | (refine wpList_load_want (op := ⟨some 13, _, _, _, _, _⟩) (by rfl) 22 (.tmp 1) rfl w1.heap.size 0 rfl _ _ HR.out Tryd.underlying22 rfl (info22 _) ?_))
  refine (c7.out _ hww.out).mono ?_
  rintro e3 w3 ⟨rfl, hb3⟩
  have HB3 := hide (bstep HB2.out hb3)
  clear hb3
  go_wp2_with fail
  go_ret
  exact ⟨rfl, HB3.out⟩

theorem lives_call (w : World) (hw : HasW w) : Calls Tryd.prog 9 #[] w fun e w' => e = .returned (.bool true) ∧ Below w.heap.size w w' := by
  refine lives_core ten l80 w hw l80_cells rfl rfl (fun W h => ?_) (fun W h => ?_)
  · have c := inv_call l80 W h
    unfold blkV at c
    rw [inv80] at c
    exact c
  · have c := fwd_call ten W h
    unfold blkV at c
    rw [fwd10] at c
    exact c
end Go.Proofs.YtimkedfdeghmnaaDoor
