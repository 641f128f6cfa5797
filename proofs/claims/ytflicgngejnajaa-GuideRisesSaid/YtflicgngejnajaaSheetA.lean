/- Sheets as they lie: rows, their cells, the cells' lists of events. -/
import Derived.Test.YtflicgngejnajaaGuideD
import Derived.Deep.MidRow
import Derived.Deep.WholeRow
namespace Go.Proofs.Ytflicgngejnajaa
open Go.RowKit
set_option linter.unusedVariables false
set_option linter.unusedSimpArgs false
attribute [local go_sem] setCell_drewN alloc_drewN

/-- A list of events as a cell holds it: where, how many, and the capacity. -/
structure Ev where
  a : Option Addr
  n : Nat
  c : Nat
abbrev Ev.v (e : Ev) : Value := .slice e.a e.n e.c

/-- A cell: its eighteen cells of memory, of which the last six hold its lists of events. -/
structure CellD where
  cs : List Value
  e0 : Ev
  e1 : Ev
  e2 : Ev
  e3 : Ev
  e4 : Ev
  e5 : Ev
/-- How many events a cell has. -/
def CellD.sum (c : CellD) : Nat := c.e0.n + c.e1.n + c.e2.n + c.e3.n + c.e4.n + c.e5.n

/-- A cell lies at this place. -/
def IsCell (w : World) (b o : Nat) (c : CellD) : Prop :=
  w.rangeAt b o c.cs ∧ c.cs.length = 18 ∧ (∀ v ∈ c.cs, v.oneCell' = true) ∧ c.cs.drop 12 = [c.e0.v, c.e1.v, c.e2.v, c.e3.v, c.e4.v, c.e5.v]

/-- Cells lie here, one behind the other. -/
def IsCells (w : World) (a : Option Addr) (l : List CellD) : Prop :=
  ∀ k (h : k < l.length), ∃ b off, a = some ⟨b, off, none⟩ ∧ b < w.heap.size ∧ IsCell w b (off + k * 18) l[k]

/-- A row's fields. -/
structure RowD where
  hd : Bool
  id : Int
  q : Int
  a : Option Addr
  c : Nat
  cells : List CellD
def RowD.sum (r : RowD) : Nat := (r.cells.map CellD.sum).sum

/-- Rows lie here, one behind the other, each with its cells. -/
def IsRows (w : World) (a : Option Addr) (l : List RowD) : Prop :=
  ∀ k (h : k < l.length), ∃ b off, a = some ⟨b, off, none⟩ ∧ b < w.heap.size ∧ w.cell? ⟨b, off + k * 4, none⟩ = some (.bool l[k].hd) ∧ w.cell? ⟨b, off + k * 4 + 1, none⟩ = some (.int .i64 l[k].id) ∧ w.cell? ⟨b, off + k * 4 + 2, none⟩ = some (.int .i64 l[k].q) ∧
    w.cell? ⟨b, off + k * 4 + 3, none⟩ = some (.slice l[k].a l[k].cells.length l[k].c) ∧ IsCells w l[k].a l[k].cells

theorem IsCell.below {w w' : World} {b o B : Nat} {c : CellD} (h : IsCell w b o c) (hb : Below B w w') (hB : b < B) : IsCell w' b o c := by
  obtain ⟨h1, h2⟩ := h
  exact ⟨fun j v hv => by rw [hb.cell (p := ⟨b, o + j, none⟩) hB]; exact h1 j v hv, h2⟩
theorem IsCells.below {w w' : World} {a : Option Addr} {l : List CellD} (h : IsCells w a l) (hb : Below w.heap.size w w') : IsCells w' a l := by
  intro k hk
  obtain ⟨b, off, ha, hlt, hc⟩ := h k hk
  exact ⟨b, off, ha, Nat.lt_of_lt_of_le hlt hb.size, hc.below hb hlt⟩
theorem IsRows.below {w w' : World} {a : Option Addr} {l : List RowD} (h : IsRows w a l) (hb : Below w.heap.size w w') : IsRows w' a l := by
  intro k hk
  obtain ⟨b, off, ha, hlt, h1, h2, h3, h4, h5⟩ := h k hk
  exact ⟨b, off, ha, Nat.lt_of_lt_of_le hlt hb.size, by rw [hb.cell (p := ⟨b, _, none⟩) hlt]; exact h1, by rw [hb.cell (p := ⟨b, _, none⟩) hlt]; exact h2, by rw [hb.cell (p := ⟨b, _, none⟩) hlt]; exact h3, by rw [hb.cell (p := ⟨b, _, none⟩) hlt]; exact h4, h5.below hb⟩

/-- A sheet as a value. -/
abbrev sheetV (rf fl fm : Int) (int : Bool) (q : Int) (sa : Option Addr) (sn sc : Nat) (ra : Option Addr) (rn rc : Nat) (z : Int) : Value :=
  .agg #[.int .i64 rf, .int .i64 fl, .int .i64 fm, .bool int, .int .i64 q, .slice sa sn sc, .slice ra rn rc, .int .i64 z]

/-- So few rows, cells and events that it can be looked at often. -/
def Bnd (R : List RowD) : Prop := R.length ≤ 30 ∧ ∀ r ∈ R, r.cells.length ≤ 200 ∧ ∀ c ∈ r.cells, c.e0.n ≤ 100 ∧ c.e1.n ≤ 100 ∧ c.e2.n ≤ 100 ∧ c.e3.n ≤ 100 ∧ c.e4.n ≤ 100 ∧ c.e5.n ≤ 100

section
variable {P : Program}
/-- A whole array or struct, by value, into the block that was made last; any cells. -/
theorem wpList_store_new {ops : Array Oper} {rest : List Oper} {op : Oper} {a : Act} {w : World} {Q : Exit → Act → World → Prop} (hgd : op.guard = none) (ty : TypeId) (x y : Operand) (ho : op.op = .store ty x y)
    (g : Nat) (hg : g = w.heap.size) (c c' : Array Value) (hx : a.eval x = .pointer (some ⟨g, 0, none⟩)) (hy : a.eval y = .agg c')
    (hi : (P.info? ty).map (·.size) = some c'.size) (hs : c.size = c'.size) (h1 : c'.all (·.oneCell') = true)
    (h : wpList P ops Q rest (a.put op.dst undef) (w.alloc (.cells c' ty))) : wpList P ops Q (op :: rest) a (w.alloc (.cells c ty)) :=
  wpList_plain hgd fun K hK => by
    subst hg
    unfold Oper.wp execOp
    simp only [ho, hx, hy, Sem.run_bind, run_storeAt_new w ty c c' hi hs h1, Result.andThen_ok]
    exact hK _ _ h
end

theorem sum_take_succ {α : Type} (f : α → Nat) (l : List α) (k : Nat) (h : k < l.length) : ((l.take (k + 1)).map f).sum = ((l.take k).map f).sum + f l[k] := by
  rw [List.take_succ_eq_append_getElem h, List.map_append, List.sum_append]
  simp

theorem cells_sum_le {l : List CellD} (h : ∀ c ∈ l, c.e0.n ≤ 100 ∧ c.e1.n ≤ 100 ∧ c.e2.n ≤ 100 ∧ c.e3.n ≤ 100 ∧ c.e4.n ≤ 100 ∧ c.e5.n ≤ 100) (k : Nat) : ((l.take k).map CellD.sum).sum ≤ k * 600 := by
  induction k with
  | zero => simp
  | succ k ih =>
    by_cases hk : k < l.length
    · rw [sum_take_succ _ _ _ hk]
      have h1 : CellD.sum l[k] ≤ 600 := by
        have := h l[k] (List.getElem_mem hk)
        unfold CellD.sum
        omega
      generalize ((l.take k).map CellD.sum).sum = x at *
      generalize CellD.sum l[k] = y at *
      omega
    · rw [List.take_of_length_le (by omega)]
      rw [List.take_of_length_le (by omega)] at ih
      exact Nat.le_trans ih (Nat.mul_le_mul_right 600 (Nat.le_succ k))
end Go.Proofs.Ytflicgngejnajaa
