/- The walk of the reference's Events. -/
import Derived.Test.YtflicgngejnajaaSheetD
import Derived.Deep.OwnRows
import Derived.StillTailTactics
namespace Go.Proofs.Ytflicgngejnajaa
open Go.RowKit
set_option linter.unusedVariables false
set_option linter.unusedSimpArgs false
attribute [local go_sem] setCell_drewN alloc_drewN
attribute [local irreducible] wpList wpStill

/-- How many events a row has, by its place. -/
def sumR (R : List RowD) (x : Nat) : Nat := (R.map RowD.sum).getD x 0
/-- The row of sums while row k is gone through. -/
def rowF (R : List RowD) (k : Nat) (cur : Nat) (x : Nat) : Value := .int .i64 (if x < k then (sumR R x : Int) else if x = k then (cur : Int) else 0)
theorem rowF_at (R : List RowD) (k cur : Nat) : rowF R k cur k = .int .i64 (cur : Int) := by unfold rowF; rw [if_neg (by omega), if_pos rfl]
theorem rowF_set (R : List RowD) (k cur cur' x : Nat) : (if x = k then .int .i64 (cur' : Int) else rowF R k cur x) = rowF R k cur' x := by
  unfold rowF
  by_cases h : x = k
  · subst x; simp
  · simp [h]
theorem rowF_next (R : List RowD) (k x : Nat) : rowF R k (sumR R k) x = rowF R (k + 1) 0 x := by
  unfold rowF
  by_cases h : x < k
  · rw [if_pos h, if_pos (by omega)]
  · by_cases h2 : x = k
    · subst x; rw [if_neg h, if_pos rfl, if_pos (by omega)]
    · rw [if_neg h, if_neg h2, if_neg (by omega)]; split <;> simp

/-- The length of a cell's list of events, by its number. -/
def evn (c : CellD) (b : Nat) : Nat := [c.e0.n, c.e1.n, c.e2.n, c.e3.n, c.e4.n, c.e5.n].getD b 0
def evs (c : CellD) (b : Nat) : Nat := ([c.e0.n, c.e1.n, c.e2.n, c.e3.n, c.e4.n, c.e5.n].take b).sum
theorem evs_zero (c : CellD) : evs c 0 = 0 := rfl
theorem evs_six (c : CellD) : evs c 6 = c.sum := by unfold evs CellD.sum; simp; omega
theorem evs_succ (c : CellD) (b : Nat) (h : b < 6) : evs c (b + 1) = evs c b + evn c b := by
  match b, h with
  | 0, _ => simp [evs, evn]
  | 1, _ => simp [evs, evn]
  | 2, _ => simp [evs, evn]; omega
  | 3, _ => simp [evs, evn]; omega
  | 4, _ => simp [evs, evn]; omega
  | 5, _ => simp [evs, evn]; omega
theorem evn_le {c : CellD} (h : Fine c) (b : Nat) : evn c b ≤ 100 := by
  obtain ⟨h0, h1, h2, h3, h4, h5⟩ := h
  unfold evn
  match b with
  | 0 => exact h0
  | 1 => exact h1
  | 2 => exact h2
  | 3 => exact h3
  | 4 => exact h4
  | 5 => exact h5
  | b + 6 => simp
theorem evs_le {c : CellD} (h : Fine c) (b : Nat) (hb : b ≤ 6) : evs c b ≤ b * 100 := by
  induction b with
  | zero => rw [evs_zero]; omega
  | succ b ih =>
    rw [evs_succ c b (by omega)]
    have := ih (by omega)
    have := evn_le h b
    omega

theorem cell_ev {w : World} {b o : Nat} {c : CellD} (h : IsCell w b o c) (k : Nat) (hk : k < 6) : ∃ a cap, w.cell? ⟨b, o + 12 + k, none⟩ = some (.slice a (evn c k) cap) := by
  obtain ⟨v0, v1, v2, v3, v4, v5⟩ := cell_event h
  match k, hk with
  | 0, _ => exact ⟨_, _, v0⟩
  | 1, _ => exact ⟨_, _, v1⟩
  | 2, _ => exact ⟨_, _, v2⟩
  | 3, _ => exact ⟨_, _, v3⟩
  | 4, _ => exact ⟨_, _, v4⟩
  | 5, _ => exact ⟨_, _, v5⟩

set_option maxHeartbeats 4000000 in
set_option maxRecDepth 100000 in
theorem refEvents_go (rf fl fm : Int) (int : Bool) (q : Int) (sa : Option Addr) (sn sc : Nat) (ra : Option Addr) (n rc : Nat) (z : Int) (R : List RowD) (w : World) (hR : Hid (IsRows w ra R)) (hn : Hid (R.length = n)) (hB : Hid (Bnd R)) (hn30 : n ≤ 30) :
    Calls Try.prog 14 #[sheetV rf fl fm int q sa sn sc ra n rc z] w (MadeInts (R.map fun r => (r.sum : Int)) w) := by
  obtain ⟨i0, hi, hz0, hz1, hz2⟩ := info_parts info3
  have hmk := hide (fun W => run_make_row (P := Try.prog) 26 3 i0 (.int .i64 0) Try.underlying26 hi hz0 hz1 rfl .i64 .i64 n (by rw [hz2]; omega) (by omega) W)
  go_enter Try.func14, Try.ntmps14
  have hmk := hmk.out
  go_wp2_with fail
  clear hmk
  have BA := hide (below_alloc (Below.refl w.heap.size w) (.cells #[.int .i64 rf, .int .i64 fl, .int .i64 fm, .bool int, .int .i64 q, .slice sa sn sc, .slice ra n rc, .int .i64 z] 32))
  have g6 : (w.alloc (.cells #[.int .i64 rf, .int .i64 fl, .int .i64 fm, .bool int, .int .i64 q, .slice sa sn sc, .slice ra n rc, .int .i64 z] 32)).cell? ⟨w.heap.size, 6, none⟩ = some (.slice ra n rc) := by simp [go_sem]
  have HRA := hide (hR.out.below BA.out)
  have gs : w.heap.size < w.heap.size + 1 := by omega
  generalize hw1 : w.alloc (.cells #[.int .i64 rf, .int .i64 fl, .int .i64 fm, .bool int, .int .i64 q, .slice sa sn sc, .slice ra n rc, .int .i64 z] 32) = w1 at BA g6 HRA ⊢
  have hs1 : w.heap.size + 1 = w1.heap.size := by rw [← hw1]; simp [go_sem]
  rw [hs1] at gs
  simp only [hs1]
  have HS1 := hide hs1
  have G6 := hide g6
  have hmade := World.rowIs_made w1 (.int .i64 0) n 3
  have BW := hide (below_alloc (Below.refl w1.heap.size w1) (.cells (madeCells #[.int .i64 0] n) 3))
  clear hw1 hs1 g6
  generalize w1.alloc (.cells (madeCells #[.int .i64 0] n) 3) = w2 at hmade BW ⊢
  have hrow0 := hide (hmade.congr (g := rowF R 0 0) (fun i _ => by unfold rowF; by_cases h : i = 0 <;> simp [h]))
  clear hmade
  go_loopw [4, 5, 6] (fun i _ _ wr => ∃ k : Nat, k ≤ n ∧ i = .int .i64 k ∧ wr.rowIs w1.heap.size 3 n (rowF R k 0) ∧ Below w1.heap.size w1 wr) (fun i _ _ _ => n - (intOf i).toNat)
  case atStart => exact ⟨0, Nat.zero_le _, rfl, hrow0.out, BW.out⟩
  case round =>
    obtain ⟨k, hk, rfl, hrow, hbel⟩ := hrel
    have g6 := G6.out
    rw [← hbel.cell (p := ⟨w.heap.size, 6, none⟩) gs] at g6
    have HB := hide hbel
    have HROW := hide hrow
    by_cases hlt : (k : Int) < (n : Int)
    · have hkR : k < R.length := by have := hn.out; omega
      obtain ⟨b, off, hra, hb, h1, h2, h3, h4, h5⟩ := HRA.out k hkR
      subst hra
      have hbd := hB.out.2 R[k] (List.getElem_mem hkR)
      have hsumk : sumR R k = R[k].sum := by unfold sumR; rw [List.getD_eq_getElem?_getD, List.getElem?_map, List.getElem?_eq_getElem hkR]; rfl
      rcases hr : R[k] with ⟨hd, id, qq, ca, cc, cs⟩
      rw [hr] at hbd hsumk h4 h5
      simp only at h4 h5
      have H4 := hide h4
      have HC := hide h5
      have HR := hide hr
      have HBD := hide hbd
      have HSK := hide hsumk
      have hc200 := hbd.1
      clear hr hbd hsumk hbel hrow h1 h2 h3 h4 h5
      go_wp2_with fail
      clear g6
      go_loopw [5, 6] (fun i _ w3 => ∃ j : Nat, j ≤ cs.length ∧ i = .int .i64 j ∧ w3.rowIs w1.heap.size 3 n (rowF R k (csum cs j)) ∧ Below w1.heap.size w1 w3) (fun i _ _ => cs.length - (intOf i).toNat)
      case atStart => exact ⟨0, Nat.zero_le _, rfl, HROW.out, HB.out⟩
      case round =>
        obtain ⟨j, hj, rfl, hrow, hbel⟩ := hrel
        rename World => w3
        have h4 := H4.out
        rw [← hbel.cell (p := ⟨b, off + k * 4 + 3, none⟩) hb] at h4
        have g6 := G6.out
        rw [← hbel.cell (p := ⟨w.heap.size, 6, none⟩) gs] at g6
        have HB2 := hide hbel
        have HROW2 := hide hrow
        clear hbel hrow
        by_cases hlt2 : (j : Int) < (cs.length : Int)
        · have hjR : j < cs.length := by omega
          obtain ⟨b2, off2, hca, hb2, hcell⟩ := HC.out j hjR
          subst hca
          have hs1 := sum_take_succ CellD.sum cs j hjR
          have hfine : Fine cs[j] := HBD.out.2 cs[j] (List.getElem_mem hjR)
          have hce := cell_ev hcell
          generalize cs[j] = cj at hs1 hfine hce
          have HCE := hide hce
          have HS1 := hide hs1
          have HFI := hide hfine
          clear hs1 hfine hcell hce
          go_wp2_with fail
          clear g6 h4
          go_loopw [6] (fun i w4 => ∃ b : Nat, b ≤ 6 ∧ i = .int .i64 b ∧ w4.rowIs w1.heap.size 3 n (rowF R k (csum cs j + evs cj b)) ∧ Below w1.heap.size w1 w4) (fun i _ => 6 - (intOf i).toNat)
          case atStart => exact ⟨0, Nat.zero_le _, rfl, HROW2.out, HB2.out⟩
          case round =>
            obtain ⟨c, hc6, rfl, hrow, hbel⟩ := hrel
            rename World => w4
            have HB3 := hide hbel
            have HROW3 := hide hrow
            by_cases hlt3 : (c : Int) < 6
            · have hc6' : c < 6 := by omega
              obtain ⟨ea, ec, he⟩ := HCE.out c hc6'
              have hev := evn_le HFI.out c
              have hsu := evs_succ cj c hc6'
              have hle := evs_le HFI.out c hc6
              have hcs := cells_sum_le HBD.out.2 j
              have hjj : ((cs.take j).map CellD.sum).sum = csum cs j := rfl
              rw [hjj] at hcs
              clear hjj
              have h4 := H4.out
              rw [← hbel.cell (p := ⟨b, off + k * 4 + 3, none⟩) hb] at h4
              have g6 := G6.out
              rw [← hbel.cell (p := ⟨w.heap.size, 6, none⟩) gs] at g6
              rw [← hbel.cell (p := ⟨b2, off2 + j * 18 + 12 + c, none⟩) hb2] at he
              have gr := hrow.cell (i := k) (by omega)
              rw [rowF_at] at gr
              have gf := hrow.frozen k
              generalize evn cj c = ne at *
              generalize evs cj c = es at *
              generalize csum cs j = cu at *
              have HSU := hide hsu
              clear hrow hbel hsu
              go_wp2_with fail
              refine wp_region_still_tail 21 (by kernel_rfl) (by kernel_rfl) ?_
              change wpStill Try.prog _ (World.drew _) (fun a' => wpList _ _ _ _ a' (World.drew _)) _ _
              simp only [List.take_succ_cons, List.take_zero, List.drop_succ_cons, List.drop_zero]
              repeat still_step
              refine wpStill_nil ?_
              go_wp2_with fail
              go_roundw
              case rel =>
                refine ⟨c + 1, by omega, by go_num, ?_, ?_⟩
                · refine (HROW3.out.set k _).drew.congr (fun x _ => ?_)
                  rw [HSU.out]
                  refine Eq.trans ?_ (rowF_set R k (cu + es) (cu + (es + ne)) x)
                  have e : ((cu + (es + ne) : Nat) : Int) = (cu : Int) + (es : Int) + (ne : Int) := by omega
                  rw [e]
                · exact (HB3.out.setCell (Nat.le_refl _) _).drew
              case measure => simp [intOf]; omega
            · have hc6' : c = 6 := by omega
              have hee : csum cs j + evs cj c = csum cs (j + 1) := by rw [hc6', evs_six]; exact HS1.out.symm
              have HEE := hide hee
              clear hc6' hee hrow hbel
              go_wp2_with fail
              go_roundw
              case rel => exact ⟨j + 1, by omega, by go_num, by rw [← HEE.out]; exact HROW3.out, HB3.out⟩
              case measure => simp [intOf]; omega
        · have hje : j = cs.length := by omega
          have hee : csum cs j = sumR R k := by rw [hje, HSK.out]; unfold csum RowD.sum; rw [List.take_length]
          have HEE := hide hee
          clear hje hee
          go_wp2_with fail
          go_roundw
          case rel => exact ⟨k + 1, by omega, by go_num, by have h := HROW2.out; rw [HEE.out] at h; exact h.congr (fun x _ => rowF_next R k x), HB2.out⟩
          case measure => simp [intOf]; omega
    · have hkn : k = n := by omega
      have HKN := hide hkn
      clear hkn hrow hbel
      go_wp2_with fail
      go_ret
      refine ⟨_, rfl, ⟨_, n, by rw [List.length_map, hn.out]; rfl, fun _ => ⟨w1.heap.size, 0, rfl, HROW.out.lt, fun i hi => ?_⟩⟩, BA.out.trans (HB.out.mono BA.out.size)⟩
      have hin : i < n := by rw [List.length_map, hn.out] at hi; exact hi
      have h := HROW.out.cell hin
      rw [Nat.zero_add, h]
      unfold rowF sumR
      rw [if_pos (by have := HKN.out; omega)]
      rw [List.getD_eq_getElem?_getD, List.getD_eq_getElem?_getD, List.getElem?_map, List.getElem?_map, List.getElem?_eq_getElem (by rw [hn.out]; exact hin)]
      rfl

theorem refEvents_call (rf fl fm : Int) (int : Bool) (q : Int) (sa : Option Addr) (sn sc : Nat) (ra : Option Addr) (rc : Nat) (z : Int) (R : List RowD) (w : World) (hR : IsRows w ra R) (hB : Bnd R) :
    Calls Try.prog 14 #[sheetV rf fl fm int q sa sn sc ra R.length rc z] w (MadeInts (R.map fun r => (r.sum : Int)) w) :=
  refEvents_go rf fl fm int q sa sn sc ra R.length rc z R w hR rfl hB hB.1
end Go.Proofs.Ytflicgngejnajaa
