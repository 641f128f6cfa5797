/- Opening a slice of vectors. -/
import Derived.Test.YtimkedfdeghmnaaMedA
import Derived.Deep.Slices
namespace Go.Proofs.Ytimkedfdeghmnaa
open Go.ChangeShapes Go.WideShapes Go.RowKit Go.Deep
section
variable {H : Type} {enc : TypeId × Value → H} {P : Program} {w : World} {base : Nat} {spare : Nat → Bool} {held : Bool}

theorem open_pairs {t e e1 : TypeId} {a : Option Addr} {len cap : Nat} {d : DataW H} {p : List MemPlace} (ht : P.underlying t = some (.slice e)) (he : P.underlying e = some (.array 2 e1)) (he1 : P.underlying e1 = some (.int .i64))
    (hce : P.cellsOf e = 2) (hce1 : P.cellsOf e1 = 1) (h : DataW.Trod enc P w base spare held t (.slice a len cap) d p) :
    ∃ l : List (Int × Int), l.length = len ∧ IsPairs w a l := by
  obtain ⟨fuel, hf⟩ := h
  rcases open_slice ht hf with ⟨hcs, _⟩ | ⟨x, len', cap', m, n, D, Pl, hcs, hb, hl, hm, hmm, _, hi⟩
  · simp [Value.cells] at hcs
    obtain ⟨rfl, rfl, rfl⟩ := hcs
    exact ⟨[], rfl, fun h => absurd rfl h⟩
  · simp [Value.cells] at hcs
    obtain ⟨rfl, rfl, rfl⟩ := hcs
    have hle : len ≤ m := by rw [hmm]; split <;> omega
    have key : ∀ i, i < len → ∃ u v : Int, w.cell? (x.add (i * 2)) = some (.int .i64 u) ∧ w.cell? (x.add (i * 2 + 1)) = some (.int .i64 v) := by
      intro i hlt
      obtain ⟨cs', hc, hd⟩ := hi i (by omega)
      rw [hce] at hc
      obtain ⟨_, hlen, hat⟩ := World.cells?_some hc
      obtain ⟨xs, m', _, _, _, hxl, hx⟩ := DataW.trod_array he hd
      have h0 := hx 0 (by omega)
      have h1 := hx 1 (by omega)
      match cs', hlen with
      | [c0, c1], _ =>
        rw [List.getElem?_eq_getElem (by omega)] at h0 h1
        simp [hce1] at h0 h1
        obtain ⟨u, hu, _, _⟩ := DataW.trod_int he1 h0
        obtain ⟨v, hv, _, _⟩ := DataW.trod_int he1 h1
        simp at hu hv
        have g0 := hat 0 (by omega)
        have g1 := hat 1 (by omega)
        rw [Go.Deep.add_add] at g0 g1
        simp [hu, hv] at g0 g1
        exact ⟨u, v, by simpa using g0, g1⟩
    refine ⟨(List.range len).map fun i => (intOf ((w.cell? (x.add (i * 2))).getD undef), intOf ((w.cell? (x.add (i * 2 + 1))).getD undef)), by simp, ?_⟩
    intro hne
    have hpos : 0 < len := by
      rcases Nat.eq_zero_or_pos len with h | h
      · subst h; simp at hne
      · exact h
    obtain ⟨b, off, spot⟩ := x
    have hspot : spot = none := by
      obtain ⟨u, _, hu, _⟩ := key 0 hpos
      simpa [Addr.add] using World.cell?_spot hu
    subst hspot
    have hblk : b < w.heap.size := by
      obtain ⟨u, _, hu, _⟩ := key 0 hpos
      simpa [Addr.add] using block_lt_of_cell hu
    refine ⟨b, off, rfl, hblk, fun i hlt => ?_⟩
    rw [List.length_map, List.length_range] at hlt
    obtain ⟨u, v, hu, hv⟩ := key i hlt
    have e : vat ((List.range len).map fun i => (intOf ((w.cell? ((⟨b, off, none⟩ : Addr).add (i * 2))).getD undef), intOf ((w.cell? ((⟨b, off, none⟩ : Addr).add (i * 2 + 1))).getD undef))) i = (u, v) := by
      unfold vat
      rw [List.getD_eq_getElem?_getD, List.getElem?_map, List.getElem?_range hlt]
      simp [hu, hv, intOf]
    rw [e]
    have a0 : (⟨b, off, none⟩ : Addr).add (i * 2) = ⟨b, off + i * 2, none⟩ := by unfold Addr.add; split <;> simp_all
    have a1 : (⟨b, off, none⟩ : Addr).add (i * 2 + 1) = ⟨b, off + i * 2 + 1, none⟩ := by unfold Addr.add; rw [if_neg (by omega)]; simp [Nat.add_assoc]
    rw [a0] at hu
    rw [a1] at hv
    exact ⟨hu, hv⟩
end
end Go.Proofs.Ytimkedfdeghmnaa
