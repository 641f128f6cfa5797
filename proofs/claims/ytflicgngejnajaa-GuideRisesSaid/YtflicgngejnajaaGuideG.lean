/- The floors rise: in plain Lean. -/
import Derived.Test.YtflicgngejnajaaGuideF
namespace Go.Proofs.Ytflicgngejnajaa
set_option linter.unusedVariables false
set_option linter.unusedSimpArgs false

theorem gl_head (k : Nat) (f s : Int) : (gl k f s ++ [31]).getD 0 0 = if 0 < k ∧ f < 31 then f else 31 := by
  cases k with
  | zero => simp [gl]
  | succ k =>
    rw [gl]
    by_cases h : 31 ≤ f
    · rw [if_pos h, if_neg (by omega)]; rfl
    · rw [if_neg h, if_pos ⟨by omega, by omega⟩]; rfl

theorem gl_one (k : Nat) (f s : Int) (h : ¬ (0 < k ∧ f < 31)) : gl k f s = [] := by
  cases k with
  | zero => rfl
  | succ k => rw [gl, if_pos (by omega)]

theorem gl_rise (k : Nat) (f s : Int) (hs : 1 ≤ s) : ∀ i, i + 1 < (gl k f s ++ [31]).length → (gl k f s ++ [31]).getD i 0 < (gl k f s ++ [31]).getD (i + 1) 0 := by
  induction k generalizing f with
  | zero => intro i hi; simp [gl] at hi
  | succ k ih =>
    intro i hi
    rw [gl] at hi ⊢
    by_cases h : 31 ≤ f
    · rw [if_pos h] at hi; simp at hi
    · rw [if_neg h] at hi ⊢
      cases i with
      | zero =>
        have := gl_head k (f + s) s
        show f < (gl k (f + s) s ++ [31]).getD 0 0
        rw [this]
        split <;> omega
      | succ i => exact ih (f + s) i (by simpa using hi)

theorem gl_last (l : List Int) : (l ++ [31]).getD ((l ++ [31]).length - 1) 0 = 31 := by
  rw [List.length_append, List.length_singleton, Nat.add_sub_cancel, List.getD_eq_getElem?_getD, List.getElem?_append_right (Nat.le_refl _)]
  simp

/-- All that is asked of a list of floors. -/
structure Rises (tr f e : Int) (L : List Int) : Prop where
  len0 : 0 < L.length
  len1 : (L.length : Int) ≤ clip tr 1 31
  head : 1 < L.length → L.getD 0 0 = f
  rise : ∀ i, i + 1 < L.length → L.getD i 0 < L.getD (i + 1) 0
  last : L.getD (L.length - 1) 0 = 31
  least : e ≤ L.getD 0 0

theorem glist_rises (bu dr le st tr level : Int) : Rises tr (gfirst bu dr le false level) (clip le 1 31) (glist bu dr le st tr false level) := by
  have h1 := clip_bd (n := tr) (lo := 1) (hi := 31) (by omega)
  have h2 := clip_bd (n := st) (lo := 1) (hi := 31) (by omega)
  have h3 := clip_bd (n := le) (lo := 1) (hi := 31) (by omega)
  have hf : clip le 1 31 ≤ gfirst bu dr le false level := by
    unfold gfirst
    rw [if_neg (by simp)]
    have := (share_le (31 - clip le 1 31) (after level dr 0) bu).1
    omega
  have hl := gl_len (clip tr 1 31 - 1).toNat (gfirst bu dr le false level) (clip st 1 31)
  unfold glist
  rw [if_neg (by simp)]
  refine ⟨by simp, ?_, ?_, gl_rise _ _ _ h2.1, gl_last _, ?_⟩
  · rw [List.length_append, List.length_singleton]; omega
  · intro h
    rw [gl_head]
    split
    · rfl
    · rename_i hn
      rw [gl_one _ _ _ hn] at h
      simp at h
  · rw [gl_head]
    split <;> omega

theorem minmax_clip (x : Int) : min (max x 1) 31 = clip x 1 31 := by
  unfold clip
  rw [if_neg (by omega)]
  split
  · omega
  · split <;> omega

theorem clip_mono {a b lo hi : Int} (h : a ≤ b) : clip a lo hi ≤ clip b lo hi := by
  unfold clip
  (repeat' split) <;> omega

theorem share_mono (n a : Int) {p q : Int} (hn : 0 ≤ n) (h : p ≤ q) : share n p a ≤ share n q a := by
  have ha := clip_bd (n := a) (lo := 0) (hi := 2147483647) (by omega)
  have hc := clip_bd (n := n) (lo := 0) (hi := 2147483647) (by omega)
  have hp := clip_mono (lo := 0) (hi := clip a 0 2147483647) h
  unfold share
  split
  · omega
  · exact Int.ediv_le_ediv (by omega) (Int.mul_le_mul_of_nonneg_left hp hc.1)

theorem after_mono (d b : Int) {l m : Int} (h : l ≤ m) : after l d b ≤ after m d b := by
  have := clip_mono (lo := 0) (hi := 1073741824) h
  unfold after
  omega

theorem gfirst_mono (bu dr le : Int) {l m : Int} (h : l ≤ m) : gfirst bu dr le false l ≤ gfirst bu dr le false m := by
  have h3 := clip_bd (n := le) (lo := 1) (hi := 31) (by omega)
  have := share_mono (31 - clip le 1 31) bu (by omega) (after_mono dr 0 h)
  unfold gfirst
  rw [if_neg (by simp), if_neg (by simp)]
  omega

theorem gfirst_least (bu dr le level : Int) : clip le 1 31 ≤ gfirst bu dr le false level ∧ gfirst bu dr le false level ≤ 31 := by
  have h3 := clip_bd (n := le) (lo := 1) (hi := 31) (by omega)
  have h := share_le (31 - clip le 1 31) (after level dr 0) bu
  have h2 := h.2 (by omega)
  unfold gfirst
  rw [if_neg (by simp)]
  omega
end Go.Proofs.Ytflicgngejnajaa
