/- The walk of Light: what it lets in is small. -/
import Derived.Test.YtflicgngejnajaaSheetB
namespace Go.Proofs.Ytflicgngejnajaa
open Go.RowKit
set_option linter.unusedVariables false
set_option linter.unusedSimpArgs false
attribute [local go_sem] setCell_drewN alloc_drewN
attribute [local irreducible] wpList

/-- It tells a bool; where it tells true the rows are small. -/
def LightPost (R : List RowD) (w : World) (e : Ending) (w' : World) : Prop := ∃ b : Bool, e = .returned (.bool b) ∧ (b = true → Bnd R) ∧ Below w.heap.size w w'

def Fine (c : CellD) : Prop := c.e0.n ≤ 100 ∧ c.e1.n ≤ 100 ∧ c.e2.n ≤ 100 ∧ c.e3.n ≤ 100 ∧ c.e4.n ≤ 100 ∧ c.e5.n ≤ 100
def FineRow (r : RowD) : Prop := r.cells.length ≤ 200 ∧ ∀ c ∈ r.cells, Fine c

theorem fine_succ {α : Type} {P : α → Prop} {l : List α} {k : Nat} (h : ∀ x ∈ l.take k, P x) (hk : k < l.length) (hp : P l[k]) : ∀ x ∈ l.take (k + 1), P x := by
  intro x hx
  rw [List.take_succ_eq_append_getElem hk, List.mem_append, List.mem_singleton] at hx
  rcases hx with hx | hx
  · exact h x hx
  · rw [hx]; exact hp

theorem cell_event {w : World} {b o : Nat} {c : CellD} (h : IsCell w b o c) :
    w.cell? ⟨b, o + 12, none⟩ = some c.e0.v ∧ w.cell? ⟨b, o + 12 + 1, none⟩ = some c.e1.v ∧ w.cell? ⟨b, o + 12 + 2, none⟩ = some c.e2.v ∧ w.cell? ⟨b, o + 12 + 3, none⟩ = some c.e3.v ∧ w.cell? ⟨b, o + 12 + 4, none⟩ = some c.e4.v ∧ w.cell? ⟨b, o + 12 + 5, none⟩ = some c.e5.v := by
  obtain ⟨h1, h2, h3, h4⟩ := h
  have key : ∀ j v, [c.e0.v, c.e1.v, c.e2.v, c.e3.v, c.e4.v, c.e5.v][j]? = some v → w.cell? ⟨b, o + (12 + j), none⟩ = some v := by
    intro j v hv
    rw [← h4, List.getElem?_drop] at hv
    exact h1 _ _ hv
  exact ⟨key 0 _ rfl, key 1 _ rfl, key 2 _ rfl, key 3 _ rfl, key 4 _ rfl, key 5 _ rfl⟩

set_option maxHeartbeats 4000000 in
set_option maxRecDepth 100000 in
theorem light_go (rf fl fm : Int) (int : Bool) (q : Int) (sa : Option Addr) (sn sc : Nat) (ra : Option Addr) (n rc : Nat) (z : Int) (R : List RowD) (w : World) (hR : Hid (IsRows w ra R)) (hn : Hid (R.length = n)) (hn30 : n ≤ 30) (hs : sn ≤ 100) :
    Calls Try.prog 12 #[sheetV rf fl fm int q sa sn sc ra n rc z] w (LightPost R w) := by
  have d1 : decide (30 < (n : Int)) = false := by simp; omega
  have d2 : decide (100 < (sn : Int)) = false := by simp; omega
  go_enter Try.func12, Try.ntmps12
  go_wp2_with fail
  have BA := hide (below_alloc (Below.refl w.heap.size w) (.cells #[.int .i64 rf, .int .i64 fl, .int .i64 fm, .bool int, .int .i64 q, .slice sa sn sc, .slice ra n rc, .int .i64 z] 32))
  have g6 : (w.alloc (.cells #[.int .i64 rf, .int .i64 fl, .int .i64 fm, .bool int, .int .i64 q, .slice sa sn sc, .slice ra n rc, .int .i64 z] 32)).cell? ⟨w.heap.size, 6, none⟩ = some (.slice ra n rc) := by simp [go_sem]
  have HRA := hide (hR.out.below BA.out)
  generalize w.alloc (.cells #[.int .i64 rf, .int .i64 fl, .int .i64 fm, .bool int, .int .i64 q, .slice sa sn sc, .slice ra n rc, .int .i64 z] 32) = w1 at BA g6 HRA ⊢
  go_loop [3, 4] (fun m i => ∃ k M : Nat, k ≤ n ∧ i = .int .i64 k ∧ m = .int .i64 M ∧ M ≤ k * 200 ∧ ∀ r ∈ R.take k, FineRow r) (fun _ i => n - (intOf i).toNat)
  case atStart => exact ⟨0, 0, Nat.zero_le _, rfl, rfl, by omega, by simp⟩
  case round =>
    obtain ⟨k, M, hk, rfl, rfl, hM, hfine⟩ := hrel
    have HF := hide hfine
    clear hfine
    by_cases hlt : (k : Int) < (n : Int)
    · have hkR : k < R.length := by have := hn.out; omega
      obtain ⟨b, off, rfl, hb, h1, h2, h3, h4, h5⟩ := HRA.out k hkR
      rcases hr : R[k] with ⟨hd, id, qq, ca, cc, cs⟩
      rw [hr] at h4 h5
      simp only at h4 h5
      have HR := hide hr
      have HC := hide h5
      clear hr h5 h1 h2 h3
      by_cases hc2 : 200 < (cs.length : Int)
      · go_wp2_with fail
        go_ret
        exact ⟨false, rfl, by simp, BA.out⟩
      · go_wp2_with fail
        go_loop [3, 5] (fun m i => ∃ j M2 : Nat, j ≤ cs.length ∧ i = .int .i64 j ∧ m = .int .i64 M2 ∧ M2 ≤ k * 200 + j ∧ ∀ c ∈ cs.take j, Fine c) (fun _ i => cs.length - (intOf i).toNat)
        case atStart => exact ⟨0, M, Nat.zero_le _, rfl, rfl, by omega, by simp⟩
        case round =>
          obtain ⟨j, M2, hj, rfl, rfl, hM2, hfc⟩ := hrel
          have HFC := hide hfc
          clear hfc
          by_cases hlt2 : (j : Int) < (cs.length : Int)
          · have hjR : j < cs.length := by omega
            obtain ⟨b2, off2, rfl, hb2, hcell⟩ := HC.out j hjR
            have hfs := fun hp => fine_succ HFC.out hjR hp
            obtain ⟨v0, v1, v2, v3, v4, v5⟩ := cell_event hcell
            rcases hr : cs[j] with ⟨cl, ⟨a0, n0, c0⟩, ⟨a1, n1, c1⟩, ⟨a2, n2, c2⟩, ⟨a3, n3, c3⟩, ⟨a4, n4, c4⟩, ⟨a5, n5, c5⟩⟩
            rw [hr] at v0 v1 v2 v3 v4 v5 hfs
            unfold Ev.v at v0 v1 v2 v3 v4 v5
            simp only at v0 v1 v2 v3 v4 v5
            have HFS := hide hfs
            clear hr hfs hcell
            by_cases t0 : 100 < (n0 : Int)
            · go_wp2_with fail
              refine wp_loop_rounds 7 ?_
              rw [rounds_succ]
              go_wp2_with fail
              go_ret
              exact ⟨false, rfl, by simp, BA.out⟩
            · by_cases t1 : 100 < (n1 : Int)
              · go_wp2_with fail
                refine wp_loop_rounds 7 ?_
                rw [rounds_succ]
                go_wp2_with fail
                rw [rounds_succ]
                go_wp2_with fail
                go_ret
                exact ⟨false, rfl, by simp, BA.out⟩
              · by_cases t2 : 100 < (n2 : Int)
                · go_wp2_with fail
                  refine wp_loop_rounds 7 ?_
                  rw [rounds_succ]
                  go_wp2_with fail
                  rw [rounds_succ]
                  go_wp2_with fail
                  rw [rounds_succ]
                  go_wp2_with fail
                  go_ret
                  exact ⟨false, rfl, by simp, BA.out⟩
                · by_cases t3 : 100 < (n3 : Int)
                  · go_wp2_with fail
                    refine wp_loop_rounds 7 ?_
                    rw [rounds_succ]
                    go_wp2_with fail
                    rw [rounds_succ]
                    go_wp2_with fail
                    rw [rounds_succ]
                    go_wp2_with fail
                    rw [rounds_succ]
                    go_wp2_with fail
                    go_ret
                    exact ⟨false, rfl, by simp, BA.out⟩
                  · by_cases t4 : 100 < (n4 : Int)
                    · go_wp2_with fail
                      refine wp_loop_rounds 7 ?_
                      rw [rounds_succ]
                      go_wp2_with fail
                      rw [rounds_succ]
                      go_wp2_with fail
                      rw [rounds_succ]
                      go_wp2_with fail
                      rw [rounds_succ]
                      go_wp2_with fail
                      rw [rounds_succ]
                      go_wp2_with fail
                      go_ret
                      exact ⟨false, rfl, by simp, BA.out⟩
                    · by_cases t5 : 100 < (n5 : Int)
                      · go_wp2_with fail
                        refine wp_loop_rounds 7 ?_
                        rw [rounds_succ]
                        go_wp2_with fail
                        rw [rounds_succ]
                        go_wp2_with fail
                        rw [rounds_succ]
                        go_wp2_with fail
                        rw [rounds_succ]
                        go_wp2_with fail
                        rw [rounds_succ]
                        go_wp2_with fail
                        rw [rounds_succ]
                        go_wp2_with fail
                        go_ret
                        exact ⟨false, rfl, by simp, BA.out⟩
                      · go_wp2_with fail
                        refine wp_loop_rounds 7 ?_
                        rw [rounds_succ]
                        go_wp2_with fail
                        rw [rounds_succ]
                        go_wp2_with fail
                        rw [rounds_succ]
                        go_wp2_with fail
                        rw [rounds_succ]
                        go_wp2_with fail
                        rw [rounds_succ]
                        go_wp2_with fail
                        rw [rounds_succ]
                        go_wp2_with fail
                        rw [rounds_succ]
                        go_wp2_with fail
                        go_round
                        case rel => exact ⟨j + 1, M2 + 1, by omega, by go_num, by go_num, by omega, HFS.out ⟨by show n0 ≤ 100; omega, by show n1 ≤ 100; omega, by show n2 ≤ 100; omega, by show n3 ≤ 100; omega, by show n4 ≤ 100; omega, by show n5 ≤ 100; omega⟩⟩
                        case measure => simp [intOf]; omega
          · have hje : j = cs.length := by omega
            have hfr : FineRow R[k] := by rw [HR.out]; exact ⟨by show cs.length ≤ 200; omega, fun c hc => HFC.out c (by rw [hje, List.take_length]; exact hc)⟩
            have HFR := hide (fine_succ HF.out hkR hfr)
            clear hje hfr
            go_wp2_with fail
            go_round
            case rel => exact ⟨k + 1, M2, by omega, by go_num, rfl, by omega, HFR.out⟩
            case measure => simp [intOf]; omega
    · have hkn : k = n := by omega
      have hall : ∀ r ∈ R, FineRow r := fun r hr => HF.out r (by rw [hkn, ← hn.out, List.take_length]; exact hr)
      have HALL := hide hall
      clear hkn hall
      go_wp2_with fail
      go_ret
      exact ⟨_, rfl, fun _ => ⟨by rw [hn.out]; exact hn30, HALL.out⟩, BA.out⟩

theorem light_call (rf fl fm : Int) (int : Bool) (q : Int) (sa : Option Addr) (sn sc : Nat) (ra : Option Addr) (rc : Nat) (z : Int) (R : List RowD) (w : World) (hR : IsRows w ra R) :
    Calls Try.prog 12 #[sheetV rf fl fm int q sa sn sc ra R.length rc z] w (LightPost R w) := by
  by_cases h1 : 30 < (R.length : Int)
  · go_enter Try.func12, Try.ntmps12
    go_wp2_with fail
    go_ret
    exact ⟨false, rfl, by simp, below_alloc (Below.refl _ _) _⟩
  · by_cases h2 : 100 < (sn : Int)
    · go_enter Try.func12, Try.ntmps12
      go_wp2_with fail
      go_ret
      exact ⟨false, rfl, by simp, below_alloc (Below.refl _ _) _⟩
    · exact light_go rf fl fm int q sa sn sc ra R.length rc z R w hR rfl (by omega) (by omega)
end Go.Proofs.Ytflicgngejnajaa
