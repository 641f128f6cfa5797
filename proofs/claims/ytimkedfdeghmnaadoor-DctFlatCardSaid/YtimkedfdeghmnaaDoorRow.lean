/- Blocks of 64 numbers as values and as they lie. -/
import Derived.Test.YtimkedfdeghmnaaDoorFore
import Derived.Test.YtimkedfdeghmnaaDoorEqNums
import Derived.Deep.OwnRows
import Derived.Deep.MidRow
import Derived.Deep.WholeRow
import Derived.StillTailTactics
namespace Go.Proofs.YtimkedfdeghmnaaDoor
open Go.RowKit
set_option linter.unusedVariables false
set_option linter.unusedSimpArgs false

/-- The cells of 64 numbers. -/
def vals (f : Nat → Int) : List Value := (List.range 64).map fun i => .int .i64 (f i)
/-- 64 numbers by value. -/
def blkV (f : Nat → Int) : Value := .agg (vals f).toArray
theorem vals_length (f : Nat → Int) : (vals f).length = 64 := by simp [vals]
theorem vals_get (f : Nat → Int) {i : Nat} (h : i < 64) : (vals f)[i]? = some (.int .i64 (f i)) := by
  unfold vals; rw [List.getElem?_map, List.getElem?_range h]; rfl
theorem vals_one (f : Nat → Int) : ∀ v ∈ vals f, v.oneCell' = true := by
  intro v hv
  unfold vals at hv
  rw [List.mem_map] at hv
  obtain ⟨i, _, rfl⟩ := hv
  rfl
theorem vals_congr {f g : Nat → Int} (h : ∀ i, i < 64 → f i = g i) : vals f = vals g := by
  unfold vals
  exact List.map_congr_left fun i hi => by rw [h i (by simpa using hi)]
theorem blkV_congr {f g : Nat → Int} (h : ∀ i, i < 64 → f i = g i) : blkV f = blkV g := by unfold blkV; rw [vals_congr h]
theorem vals_of_list {l : List Int} (h : l.length = 64) : (l.map (Value.int .i64)) = vals (fun i => l.getD i 0) := by
  apply List.ext_getElem?
  intro i
  rcases Nat.lt_or_ge i 64 with hi | hi
  · rw [vals_get _ hi, List.getElem?_map, List.getElem?_eq_getElem (by omega), List.getD_eq_getElem?_getD, List.getElem?_eq_getElem (by omega)]; rfl
  · rw [List.getElem?_eq_none (by simp; omega), List.getElem?_eq_none (by rw [vals_length]; omega)]

abbrev rowB (w : World) (b : Nat) (t : TypeId) (f : Nat → Int) : Prop := w.rowIs b t 64 (fun i => .int .i64 (f i))
theorem row_range {w : World} {b t : Nat} {f : Nat → Int} (h : rowB w b t f) : w.rangeAt b 0 (vals f) := by
  intro j v hv
  have hj : j < 64 := by
    have := (List.getElem?_eq_some_iff.1 hv).1
    rw [vals_length] at this; exact this
  rw [vals_get f hj] at hv
  cases hv
  rw [Nat.zero_add]
  exact h.cell hj
theorem row_there {w : World} {b t : Nat} {f : Nat → Int} (h : rowB w b t f) : w.there b 0 64 := fun j hj => by
  rw [Nat.zero_add]
  exact ⟨by rw [h.cell hj]; rfl, h.frozen j⟩
theorem row_hasB {w : World} {b t : Nat} {f : Nat → Int} (h : rowB w b t f) : HasB w b f := ⟨h.lt, fun i hi => h.cell hi⟩
theorem row_box (w : World) (t : Nat) (f : Nat → Int) : rowB (w.alloc (.cells (vals f).toArray t)) w.heap.size t f := by
  have h := World.rowIs_alloc w (vals f).toArray t (fun i => .int .i64 (f i)) (fun i hi => by
    have h64 : i < 64 := by simpa [vals_length] using hi
    rw [List.getElem?_toArray]; exact vals_get f h64)
  have e : (vals f).toArray.size = 64 := by simp [vals_length]
  rw [e] at h
  exact h
theorem below_setCells {B b : Nat} {a : World} (hB : B ≤ b) : ∀ (vs : List Value) (o : Nat) (w : World), Below B a w → Below B a (w.setCells b o vs)
  | [], _, _, h => h
  | v :: r, o, w, h => below_setCells hB r (o + 1) _ (h.setCell hB v)
theorem below_alloc_le {B : Nat} {a w : World} (h : Below B a w) (o : Obj) (hB : B ≤ w.heap.size) : Below B a (w.alloc o) := h.alloc hB o
theorem bstep {a w w' : World} (h : Below a.heap.size a w) (hb : Below w.heap.size w w') : Below a.heap.size a w' := h.trans (hb.mono h.size)

theorem size22 : (Tryd.prog.info? 22).map (·.size) = some 64 := by kernel_rfl
theorem size27 : (Tryd.prog.info? 27).map (·.size) = some 64 := by kernel_rfl
theorem info22 (f : Nat → Int) : (Tryd.prog.info? 22).map (·.size) = some (vals f).length := by rw [vals_length]; exact size22
theorem info27 (f : Nat → Int) : (Tryd.prog.info? 27).map (·.size) = some (vals f).length := by rw [vals_length]; exact size27

/-- A result that lies in a variable of its own. -/
theorem results_cell {fn : Func} {tmps : Array Value} {a t : Nat} (w : World) (b : Nat) (f : Nat → Int) (d : TypeDesc) (hr : fn.results = #[.cell a t]) (ha : tmps.getD a undef = .pointer (some ⟨b, 0, none⟩)) (hc : w.rangeAt b 0 (vals f))
    (hu : Tryd.prog.underlying t = some d) (hd : d.isRow = true) (hi : (Tryd.prog.info? t).map (·.size) = some (vals f).length) : (results fn tmps).run Tryd.prog w = .ok (blkV f) w := by
  have h := run_loadVar_mid w b 0 t (vals f) d hc hu hd hi
  have ha' : tmps[a]?.getD undef = .pointer (some ⟨b, 0, none⟩) := by simpa using ha
  unfold results
  rw [hr]
  simp [Sem.run_bind, ha', asAddr, h]
  rfl

theorem run_index22 (f : Nat → Int) (n : Nat) (hn : n < 64) (w : World) : (Instr.index 22 (blkV f) (.int .i64 (n : Int))).run Tryd.prog w = .ok (.int .i64 (f n)) w := by
  have h := vals_get f hn
  have hs : (Tryd.prog.info? 3).map (·.size) = some 1 := by kernel_rfl
  have hsz : (sizeOf 3).run Tryd.prog w = .ok 1 w := by kernel_rfl
  have hp : (part 3 (vals f).toArray (n * 1)).run Tryd.prog w = .ok (.int .i64 (f n)) w := by
    simp [part, isAgg, run_underlying Tryd.underlying3, h]
  unfold blkV
  simp [Instr.index, run_underlying Tryd.underlying22, asIntOf, hn, hsz]
  simpa using hp
theorem run_index27 (f : Nat → Int) (n : Nat) (hn : n < 64) (w : World) : (Instr.index 27 (blkV f) (.int .i64 (n : Int))).run Tryd.prog w = .ok (.int .i64 (f n)) w := by
  have h := vals_get f hn
  have hs : (Tryd.prog.info? 3).map (·.size) = some 1 := by kernel_rfl
  have hsz : (sizeOf 3).run Tryd.prog w = .ok 1 w := by kernel_rfl
  have hp : (part 3 (vals f).toArray (n * 1)).run Tryd.prog w = .ok (.int .i64 (f n)) w := by
    simp [part, isAgg, run_underlying Tryd.underlying3, h]
  unfold blkV
  simp [Instr.index, run_underlying Tryd.underlying27, asIntOf, hn, hsz]
  simpa using hp
end Go.Proofs.YtimkedfdeghmnaaDoor
