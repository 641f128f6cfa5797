/- What the laws of guide share. -/
import Derived.Test.YtflicgngejnajaaGuideE
namespace Go.Proofs.Ytflicgngejnajaa
open Go.RowKit
set_option linter.unusedVariables false
set_option linter.unusedSimpArgs false

theorem gl_len (k : Nat) (f s : Int) : (gl k f s).length ≤ k := by
  induction k generalizing f with
  | zero => simp [gl]
  | succ k ih =>
    rw [gl]
    split
    · simp
    · have := ih (f + s); simp; omega

theorem glist_len (bu dr le st tr : Int) (pi : Bool) (level : Int) : (glist bu dr le st tr pi level).length ≤ 31 := by
  have h3 := clip_bd (n := tr) (lo := 1) (hi := 31) (by omega)
  unfold glist
  split
  · simp
  · have := gl_len (clip tr 1 31 - 1).toNat (gfirst bu dr le pi level) (clip st 1 31)
    rw [List.length_append, List.length_singleton]
    omega

theorem confKeepS {b : Nat} {W W' : World} {v0 v1 v2 v3 v4 v5 v6 v7 : Value} (hb : Below W.heap.size W W') (h : W.cell? ⟨b, 0, none⟩ = some (v0) ∧ W.cell? ⟨b, 1, none⟩ = some (v1) ∧ W.cell? ⟨b, 2, none⟩ = some (v2) ∧ W.cell? ⟨b, 3, none⟩ = some (v3) ∧ W.cell? ⟨b, 4, none⟩ = some (v4) ∧ W.cell? ⟨b, 5, none⟩ = some (v5) ∧ W.cell? ⟨b, 6, none⟩ = some (v6) ∧ W.cell? ⟨b, 7, none⟩ = some (v7) ∧ b < W.heap.size) :
    W'.cell? ⟨b, 0, none⟩ = some (v0) ∧ W'.cell? ⟨b, 1, none⟩ = some (v1) ∧ W'.cell? ⟨b, 2, none⟩ = some (v2) ∧ W'.cell? ⟨b, 3, none⟩ = some (v3) ∧ W'.cell? ⟨b, 4, none⟩ = some (v4) ∧ W'.cell? ⟨b, 5, none⟩ = some (v5) ∧ W'.cell? ⟨b, 6, none⟩ = some (v6) ∧ W'.cell? ⟨b, 7, none⟩ = some (v7) ∧ b < W'.heap.size := by
  obtain ⟨h0, h1, h2, h3, h4, h5, h6, h7, h8⟩ := h
  exact ⟨by rw [hb.cell (p := ⟨b, _, none⟩) h8]; exact h0, by rw [hb.cell (p := ⟨b, _, none⟩) h8]; exact h1, by rw [hb.cell (p := ⟨b, _, none⟩) h8]; exact h2, by rw [hb.cell (p := ⟨b, _, none⟩) h8]; exact h3, by rw [hb.cell (p := ⟨b, _, none⟩) h8]; exact h4, by rw [hb.cell (p := ⟨b, _, none⟩) h8]; exact h5, by rw [hb.cell (p := ⟨b, _, none⟩) h8]; exact h6, by rw [hb.cell (p := ⟨b, _, none⟩) h8]; exact h7, Nat.lt_of_lt_of_le h8 hb.size⟩
end Go.Proofs.Ytflicgngejnajaa
