/- Opening a Sheet. -/
import Derived.Test.YtflicgngejnajaaSheetA
import Derived.Test.YtflicgngejnajaaGuideOpen
import Derived.Deep.Slices
namespace Go.Proofs.Ytflicgngejnajaa
open Go.ChangeShapes Go.WideShapes Go.ChangeAt Go.RowKit Go.Deep
set_option linter.unusedVariables false
set_option linter.unusedSimpArgs false
section
variable {H : Type} {enc : TypeId × Value → H} {w : World} {base : Nat} {spare : Nat → Bool} {held : Bool}

theorem one_int {fuel : Nat} {c : Value} {x : DataW H × List MemPlace} (h : DataW.trod enc Try.prog w base spare held fuel 3 [c] = some x) : c.oneCell' = true := by
  obtain ⟨a, ha, _, _⟩ := DataW.trod_int Try.underlying3 h
  simp at ha
  rw [ha]; rfl
theorem one_bool {fuel : Nat} {c : Value} {x : DataW H × List MemPlace} (h : DataW.trod enc Try.prog w base spare held fuel 4 [c] = some x) : c.oneCell' = true := by
  obtain ⟨a, ha, _⟩ := DataW.trod_bool Try.underlying4 h
  simp at ha
  rw [ha]; rfl
theorem one_ev {fuel : Nat} {c : Value} {x : DataW H × List MemPlace} (h : DataW.trod enc Try.prog w base spare held fuel 43 [c] = some x) : ∃ e : Ev, c = e.v := by
  rcases open_slice Try.underlying43 h with ⟨hcs, _⟩ | ⟨a, len, cap, m, n, D, Pl, hcs, _⟩
  · simp at hcs; exact ⟨⟨none, 0, 0⟩, hcs⟩
  · simp at hcs; exact ⟨⟨some a, len, cap⟩, hcs⟩

theorem one_array {t e n : Nat} {Q : Value → Prop} (ht : Try.prog.underlying t = some (.array n e)) (ce : Try.prog.cellsOf e = 1) (hn : Try.prog.cellsOf t = n) (hone : ∀ m c y, DataW.trod enc Try.prog w base spare held m e [c] = some y → Q c)
    {fuel : Nat} {cs : List Value} {x : DataW H × List MemPlace} (h : DataW.trod enc Try.prog w base spare held fuel t cs = some x) : ∀ v ∈ cs, Q v := by
  obtain ⟨xs, m, _, _, hl, hxl, hx⟩ := DataW.trod_array ht h
  intro v hv
  obtain ⟨i, hi, rfl⟩ := List.getElem_of_mem hv
  have hin : i < n := by rw [← hn, ← hl]; exact hi
  have h1 := hx i hin
  rw [ce, Nat.mul_one, List.drop_eq_getElem_cons hi, List.take_succ_cons, List.take_zero, List.getElem?_eq_getElem (by omega)] at h1
  exact hone _ _ _ h1

theorem open_cell {fuel : Nat} {cs : List Value} {x : DataW H × List MemPlace} (h : DataW.trod enc Try.prog w base spare held fuel 48 cs = some x) :
    ∃ c : CellD, c.cs = cs ∧ cs.length = 18 ∧ (∀ v ∈ cs, v.oneCell' = true) ∧ cs.drop 12 = [c.e0.v, c.e1.v, c.e2.v, c.e3.v, c.e4.v, c.e5.v] := by
  have k48 : Try.prog.cellsOf 48 = 18 := by kernel_rfl
  have k3 : Try.prog.cellsOf 3 = 1 := by kernel_rfl
  have k4 : Try.prog.cellsOf 4 = 1 := by kernel_rfl
  have k43 : Try.prog.cellsOf 43 = 1 := by kernel_rfl
  have k44 : Try.prog.cellsOf 44 = 2 := by kernel_rfl
  have k45 : Try.prog.cellsOf 45 = 6 := by kernel_rfl
  have k46 : Try.prog.cellsOf 46 = 6 := by kernel_rfl
  obtain ⟨xs, n, _, _, hl, hxl, hg⟩ := DataW.trod_struct Try.underlying48 h
  rw [k48] at hl
  have xl : xs.length = 7 := hxl
  obtain ⟨c0, c1, c2, c3, c4, c5, c6, c7, c8, c9, c10, c11, c12, c13, c14, c15, c16, c17, rfl⟩ : ∃ c0 c1 c2 c3 c4 c5 c6 c7 c8 c9 c10 c11 c12 c13 c14 c15 c16 c17, cs = [c0, c1, c2, c3, c4, c5, c6, c7, c8, c9, c10, c11, c12, c13, c14, c15, c16, c17] := by
    match cs, hl with
    | [c0, c1, c2, c3, c4, c5, c6, c7, c8, c9, c10, c11, c12, c13, c14, c15, c16, c17], _ => exact ⟨_, _, _, _, _, _, _, _, _, _, _, _, _, _, _, _, _, _, rfl⟩
  have e0 := hg 0 _ rfl
  have e1 := hg 1 _ rfl
  have e2 := hg 2 _ rfl
  have e3 := hg 3 _ rfl
  have e4 := hg 4 _ rfl
  have e5 := hg 5 _ rfl
  have e6 := hg 6 _ rfl
  rw [List.getElem?_eq_getElem (by omega)] at e0 e1 e2 e3 e4 e5 e6
  simp [k3, k4, k44, k45, k46] at e0 e1 e2 e3 e4 e5 e6
  have g0 := one_int e0
  have g1 := one_bool e1
  have g2 := one_int e2
  have g3 := one_int e3
  have g4 := one_array (Q := fun v => v.oneCell' = true) Try.underlying44 k3 k44 (fun _ _ _ hh => one_int hh) e4
  have g5 := one_array (Q := fun v => v.oneCell' = true) Try.underlying45 k3 k45 (fun _ _ _ hh => one_int hh) e5
  have g6 := one_array (Q := fun c => ∃ e : Ev, c = e.v) Try.underlying46 k43 k46 (fun _ _ _ hh => one_ev hh) e6
  simp only [List.mem_cons, List.not_mem_nil, or_false, forall_eq_or_imp, forall_eq] at g4 g5 g6
  obtain ⟨⟨e0', rfl⟩, ⟨e1', rfl⟩, ⟨e2', rfl⟩, ⟨e3', rfl⟩, ⟨e4', rfl⟩, ⟨e5', rfl⟩⟩ := g6
  obtain ⟨g40, g41⟩ := g4
  obtain ⟨g50, g51, g52, g53, g54, g55⟩ := g5
  refine ⟨⟨_, e0', e1', e2', e3', e4', e5'⟩, rfl, rfl, ?_, rfl⟩
  simp only [List.mem_cons, List.not_mem_nil, or_false, forall_eq_or_imp, forall_eq]
  exact ⟨g0, g1, g2, g3, g40, g41, g50, g51, g52, g53, g54, g55, rfl, rfl, rfl, rfl, rfl, rfl⟩

/-- Where a slice's cells begin. -/
theorem laid_spot {x : Addr} {k n : Nat} {cs : List Value} (h : w.cells? base (x.add (0 * k)) n = some cs) (hn : 0 < n) :
    ∃ b off, x = ⟨b, off, none⟩ ∧ b < w.heap.size := by
  obtain ⟨_, hlen, hat⟩ := World.cells?_some h
  obtain ⟨b, off, spot⟩ := x
  have h0 := hat 0 (by omega)
  rw [Go.Deep.add_add] at h0
  rw [List.getElem?_eq_getElem (by omega)] at h0
  have hspot : spot = none := by simpa [Addr.add] using World.cell?_spot h0
  subst hspot
  have hblk : b < w.heap.size := by simpa [Addr.add] using block_lt_of_cell h0
  exact ⟨b, off, rfl, hblk⟩

/-- What a slice's cells are, laid out. -/
theorem laid_cells {b off i k n : Nat} {cs : List Value} (h : w.cells? base ((⟨b, off, none⟩ : Addr).add (i * k)) n = some cs) : w.rangeAt b (off + i * k) cs := by
  obtain ⟨_, hlen, hat⟩ := World.cells?_some h
  intro j v hv
  have hj : j < cs.length := by
    rcases Nat.lt_or_ge j cs.length with h | h
    · exact h
    · rw [List.getElem?_eq_none h] at hv; cases hv
  have h1 := hat j (by omega)
  rw [Go.Deep.add_add, hv] at h1
  have ea : (⟨b, off, none⟩ : Addr).add (i * k + j) = ⟨b, off + i * k + j, none⟩ := by
    unfold Addr.add
    split
    · rename_i h0
      have e1 : i * k = 0 := by omega
      have e2 : j = 0 := by omega
      rw [e1, e2]
      rfl
    · simp [Nat.add_assoc]
  rw [ea] at h1
  exact h1

theorem open_cells {fuel len cap : Nat} {a : Option Addr} {d : DataW H × List MemPlace} (h : DataW.trod enc Try.prog w base spare held fuel 40 [.slice a len cap] = some d) :
    ∃ l : List CellD, l.length = len ∧ IsCells w a l := by
  have k48 : Try.prog.cellsOf 48 = 18 := by kernel_rfl
  rcases open_slice Try.underlying40 h with ⟨hcs, _⟩ | ⟨x, len', cap', m, n, D, Pl, hcs, hb, hl, hm, hmm, _, hi⟩
  · simp at hcs
    obtain ⟨rfl, rfl, rfl⟩ := hcs
    exact ⟨[], rfl, fun k hk => absurd hk (by simp)⟩
  · simp at hcs
    obtain ⟨rfl, rfl, rfl⟩ := hcs
    have hle : len ≤ m := by rw [hmm]; split <;> omega
    have key : ∀ i, ∃ c : CellD, i < len → ∃ b off, x = ⟨b, off, none⟩ ∧ b < w.heap.size ∧ IsCell w b (off + i * 18) c := by
      intro i
      by_cases hlt : i < len
      · obtain ⟨cs', hc, hd⟩ := hi i (by omega)
        obtain ⟨cs0, hc0, _⟩ := hi 0 (by omega)
        rw [k48] at hc hc0
        obtain ⟨b, off, rfl, hblk⟩ := laid_spot hc0 (by decide)
        obtain ⟨c, rfl, h1, h2, h3⟩ := open_cell hd
        have hr := laid_cells hc
        exact ⟨c, fun _ => ⟨b, off, rfl, hblk, hr, h1, h2, h3⟩⟩
      · exact ⟨⟨[], ⟨none, 0, 0⟩, ⟨none, 0, 0⟩, ⟨none, 0, 0⟩, ⟨none, 0, 0⟩, ⟨none, 0, 0⟩, ⟨none, 0, 0⟩⟩, fun h => absurd h hlt⟩
    obtain ⟨f, hf⟩ := Classical.axiomOfChoice key
    refine ⟨(List.range len).map f, by simp, fun k hk => ?_⟩
    rw [List.length_map, List.length_range] at hk
    obtain ⟨b, off, hx, hb, hc⟩ := hf k hk
    refine ⟨b, off, by rw [hx], hb, ?_⟩
    rw [List.getElem_map, List.getElem_range]
    exact hc

theorem open_row {fuel : Nat} {cs : List Value} {d : DataW H × List MemPlace} (h : DataW.trod enc Try.prog w base spare held fuel 42 cs = some d) :
    ∃ r : RowD, cs = [.bool r.hd, .int .i64 r.id, .int .i64 r.q, .slice r.a r.cells.length r.c] ∧ IsCells w r.a r.cells := by
  have k42 : Try.prog.cellsOf 42 = 4 := by kernel_rfl
  have k3 : Try.prog.cellsOf 3 = 1 := by kernel_rfl
  have k4 : Try.prog.cellsOf 4 = 1 := by kernel_rfl
  have k40 : Try.prog.cellsOf 40 = 1 := by kernel_rfl
  obtain ⟨xs, n, _, _, hl, hxl, hg⟩ := DataW.trod_struct Try.underlying42 h
  rw [k42] at hl
  have xl : xs.length = 4 := hxl
  obtain ⟨c0, c1, c2, c3, rfl⟩ : ∃ c0 c1 c2 c3, cs = [c0, c1, c2, c3] := by
    match cs, hl with
    | [c0, c1, c2, c3], _ => exact ⟨_, _, _, _, rfl⟩
  have e0 := hg 0 _ rfl
  have e1 := hg 1 _ rfl
  have e2 := hg 2 _ rfl
  have e3 := hg 3 _ rfl
  rw [List.getElem?_eq_getElem (by omega)] at e0 e1 e2 e3
  simp [k3, k4, k40] at e0 e1 e2 e3
  obtain ⟨a0, h0, _⟩ := DataW.trod_bool Try.underlying4 e0
  obtain ⟨a1, h1, _, _⟩ := DataW.trod_int Try.underlying3 e1
  obtain ⟨a2, h2, _, _⟩ := DataW.trod_int Try.underlying3 e2
  simp at h0 h1 h2
  subst h0 h1 h2
  have h3 : ∃ a len cap, c3 = .slice a len cap := by
    rcases open_slice Try.underlying40 e3 with ⟨hcs, _⟩ | ⟨x, len', cap', m, n, D, Pl, hcs, _⟩
    · simp at hcs; exact ⟨_, _, _, hcs⟩
    · simp at hcs; exact ⟨_, _, _, hcs⟩
  obtain ⟨a, len, cap, rfl⟩ := h3
  obtain ⟨l, rfl, hc⟩ := open_cells e3
  exact ⟨⟨a0, a1, a2, a, cap, l⟩, rfl, hc⟩

theorem open_rows {fuel len cap : Nat} {a : Option Addr} {d : DataW H × List MemPlace} (h : DataW.trod enc Try.prog w base spare held fuel 30 [.slice a len cap] = some d) :
    ∃ l : List RowD, l.length = len ∧ IsRows w a l := by
  have k42 : Try.prog.cellsOf 42 = 4 := by kernel_rfl
  rcases open_slice Try.underlying30 h with ⟨hcs, _⟩ | ⟨x, len', cap', m, n, D, Pl, hcs, hb, hl, hm, hmm, _, hi⟩
  · simp at hcs
    obtain ⟨rfl, rfl, rfl⟩ := hcs
    exact ⟨[], rfl, fun k hk => absurd hk (by simp)⟩
  · simp at hcs
    obtain ⟨rfl, rfl, rfl⟩ := hcs
    have hle : len ≤ m := by rw [hmm]; split <;> omega
    have key : ∀ i, ∃ r : RowD, i < len → ∃ b off, x = ⟨b, off, none⟩ ∧ b < w.heap.size ∧ w.cell? ⟨b, off + i * 4, none⟩ = some (.bool r.hd) ∧ w.cell? ⟨b, off + i * 4 + 1, none⟩ = some (.int .i64 r.id) ∧ w.cell? ⟨b, off + i * 4 + 2, none⟩ = some (.int .i64 r.q) ∧
        w.cell? ⟨b, off + i * 4 + 3, none⟩ = some (.slice r.a r.cells.length r.c) ∧ IsCells w r.a r.cells := by
      intro i
      by_cases hlt : i < len
      · obtain ⟨cs', hc, hd⟩ := hi i (by omega)
        obtain ⟨cs0, hc0, _⟩ := hi 0 (by omega)
        rw [k42] at hc hc0
        obtain ⟨b, off, rfl, hblk⟩ := laid_spot hc0 (by decide)
        obtain ⟨r, rfl, h1⟩ := open_row hd
        have hr := laid_cells hc
        exact ⟨r, fun _ => ⟨b, off, rfl, hblk, hr 0 _ rfl, hr 1 _ rfl, hr 2 _ rfl, hr 3 _ rfl, h1⟩⟩
      · exact ⟨⟨false, 0, 0, none, 0, []⟩, fun h => absurd h hlt⟩
    obtain ⟨f, hf⟩ := Classical.axiomOfChoice key
    refine ⟨(List.range len).map f, by simp, fun k hk => ?_⟩
    rw [List.length_map, List.length_range] at hk
    obtain ⟨b, off, hx, hb, hc⟩ := hf k hk
    refine ⟨b, off, by rw [hx], hb, ?_⟩
    rw [List.getElem_map, List.getElem_range]
    exact hc

/-- A Sheet, opened. -/
theorem open_sheet {r : Reach} {b0 : Nat} {v : Value} {d : DataW H} {p : List MemPlace} (hC : Try.prog.cellsOf 32 = 8)
    (hv : Value.okWide Try.prog w r b0 32 v) (h : DataW.Trod enc Try.prog w base spare held 32 v d p) :
    ∃ (rf fl fm : Int) (int : Bool) (q : Int) (sa : Option Addr) (sn sc : Nat) (ra : Option Addr) (rc : Nat) (z : Int) (R : List RowD), v = sheetV rf fl fm int q sa sn sc ra R.length rc z ∧ IsRows w ra R := by
  obtain ⟨cs, rfl, hsz⟩ := okWide_struct Try.underlying32 hv
  obtain ⟨l⟩ := cs
  obtain ⟨c0, c1, c2, c3, c4, c5, c6, c7, rfl⟩ : ∃ c0 c1 c2 c3 c4 c5 c6 c7, l = [c0, c1, c2, c3, c4, c5, c6, c7] := by
    match l, hsz.trans hC with
    | [c0, c1, c2, c3, c4, c5, c6, c7], _ => exact ⟨_, _, _, _, _, _, _, _, rfl⟩
  obtain ⟨fuel, hf⟩ := h
  obtain ⟨xs, n, _, _, _, _, hg⟩ := DataW.trod_struct Try.underlying32 hf
  have k3 : Try.prog.cellsOf 3 = 1 := by kernel_rfl
  have k4 : Try.prog.cellsOf 4 = 1 := by kernel_rfl
  have k26 : Try.prog.cellsOf 26 = 1 := by kernel_rfl
  have k30 : Try.prog.cellsOf 30 = 1 := by kernel_rfl
  have xl : xs.length = 8 := by assumption
  have e0 := hg 0 _ rfl
  have e1 := hg 1 _ rfl
  have e2 := hg 2 _ rfl
  have e3 := hg 3 _ rfl
  have e4 := hg 4 _ rfl
  have e5 := hg 5 _ rfl
  have e6 := hg 6 _ rfl
  have e7 := hg 7 _ rfl
  rw [List.getElem?_eq_getElem (by omega)] at e0 e1 e2 e3 e4 e5 e6 e7
  simp [Value.cells, k3, k4, k26, k30] at e0 e1 e2 e3 e4 e5 e6 e7
  obtain ⟨a0, h0, _, _⟩ := DataW.trod_int Try.underlying3 e0
  obtain ⟨a1, h1, _, _⟩ := DataW.trod_int Try.underlying3 e1
  obtain ⟨a2, h2, _, _⟩ := DataW.trod_int Try.underlying3 e2
  obtain ⟨a3, h3, _⟩ := DataW.trod_bool Try.underlying4 e3
  obtain ⟨a4, h4, _, _⟩ := DataW.trod_int Try.underlying3 e4
  obtain ⟨a7, h7, _, _⟩ := DataW.trod_int Try.underlying3 e7
  have h5 : ∃ a len cap, c5 = .slice a len cap := by
    rcases open_slice Try.underlying26 e5 with ⟨hcs, _⟩ | ⟨x, len', cap', m, n, D, Pl, hcs, _⟩
    · simp at hcs; exact ⟨_, _, _, hcs⟩
    · simp at hcs; exact ⟨_, _, _, hcs⟩
  have h6 : ∃ a len cap, c6 = .slice a len cap := by
    rcases open_slice Try.underlying30 e6 with ⟨hcs, _⟩ | ⟨x, len', cap', m, n, D, Pl, hcs, _⟩
    · simp at hcs; exact ⟨_, _, _, hcs⟩
    · simp at hcs; exact ⟨_, _, _, hcs⟩
  obtain ⟨sa, sn, sc, rfl⟩ := h5
  obtain ⟨ra, rn, rc, rfl⟩ := h6
  obtain ⟨R, rfl, hR⟩ := open_rows e6
  simp at h0 h1 h2 h3 h4 h7
  subst h0 h1 h2 h3 h4 h7
  exact ⟨_, _, _, _, _, _, _, _, _, _, _, _, rfl, hR⟩
end
end Go.Proofs.Ytflicgngejnajaa
