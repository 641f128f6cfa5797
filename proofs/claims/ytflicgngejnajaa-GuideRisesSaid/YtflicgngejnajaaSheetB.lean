/- The walk of guide.Events. -/
import Derived.Test.YtflicgngejnajaaSheetA
namespace Go.Proofs.Ytflicgngejnajaa
open Go.RowKit
set_option linter.unusedVariables false
set_option linter.unusedSimpArgs false
attribute [local go_sem] setCell_drewN alloc_drewN

theorem size48 : (Try.prog.info? 48).map (·.size) = some 18 := by kernel_rfl
theorem size46 : (Try.prog.info? 46).map (·.size) = some 6 := by kernel_rfl
theorem cells_events (w : World) (c : CellD) (h : c.cs.drop 12 = [c.e0.v, c.e1.v, c.e2.v, c.e3.v, c.e4.v, c.e5.v]) :
    (w.alloc (.cells c.cs.toArray 48)).rangeAt w.heap.size 12 [c.e0.v, c.e1.v, c.e2.v, c.e3.v, c.e4.v, c.e5.v] := by
  intro j v hv
  rw [cell_of_row _ _ (12 + j) c.cs.toArray 48 (0, 0) (heap_alloc_new w _), ← hv, ← h, List.getElem?_drop]
  simp
theorem index46_0 (w : World) (x0 x1 x2 x3 x4 x5 : Value) : (Instr.index 46 (.agg #[x0, x1, x2, x3, x4, x5]) (.int .i64 0)).run Try.prog w = .ok x0 w := by kernel_rfl
theorem index46_1 (w : World) (x0 x1 x2 x3 x4 x5 : Value) : (Instr.index 46 (.agg #[x0, x1, x2, x3, x4, x5]) (.int .i64 1)).run Try.prog w = .ok x1 w := by kernel_rfl
theorem index46_2 (w : World) (x0 x1 x2 x3 x4 x5 : Value) : (Instr.index 46 (.agg #[x0, x1, x2, x3, x4, x5]) (.int .i64 2)).run Try.prog w = .ok x2 w := by kernel_rfl
theorem index46_3 (w : World) (x0 x1 x2 x3 x4 x5 : Value) : (Instr.index 46 (.agg #[x0, x1, x2, x3, x4, x5]) (.int .i64 3)).run Try.prog w = .ok x3 w := by kernel_rfl
theorem index46_4 (w : World) (x0 x1 x2 x3 x4 x5 : Value) : (Instr.index 46 (.agg #[x0, x1, x2, x3, x4, x5]) (.int .i64 4)).run Try.prog w = .ok x4 w := by kernel_rfl
theorem index46_5 (w : World) (x0 x1 x2 x3 x4 x5 : Value) : (Instr.index 46 (.agg #[x0, x1, x2, x3, x4, x5]) (.int .i64 5)).run Try.prog w = .ok x5 w := by kernel_rfl
attribute [local go_sem] index46_0 index46_1 index46_2 index46_3 index46_4 index46_5
attribute [local irreducible] wpList

theorem own_below {w w' : World} {base : Nat} {e : TypeId} {size : Nat} {v : Value} {n : Nat} {xs : List Value} (h : w.ownsRow base e size v n xs) (hb : Below w.heap.size w w') : w'.ownsRow base e size v n xs :=
  h.kept (row := none) ⟨hb.os, hb.tape, hb.output, hb.size, fun k hk _ => hb.block k hk⟩ (by cases v.ownBlock <;> simp)

/-- What a row's loop over its cells has summed up. -/
def csum (cs : List CellD) (j : Nat) : Nat := ((cs.take j).map CellD.sum).sum

set_option maxHeartbeats 4000000 in
set_option maxRecDepth 100000 in
theorem events_go (rf fl fm : Int) (int : Bool) (q : Int) (sa : Option Addr) (sn sc : Nat) (ra : Option Addr) (n rc : Nat) (z : Int) (R : List RowD) (w : World) (hR : Hid (IsRows w ra R)) (hn : Hid (R.length = n)) (hB : Hid (Bnd R)) (hn30 : n ≤ 30) :
    Calls Try.prog 13 #[sheetV rf fl fm int q sa sn sc ra n rc z] w (MadeInts (R.map fun r => (r.sum : Int)) w) := by
  obtain ⟨i0, hi, hz0, hz1, hz2⟩ := info_parts info3
  go_enter Try.func13, Try.ntmps13
  go_wp2_with fail
  have BA := hide (below_alloc (Below.refl w.heap.size w) (.cells #[.int .i64 rf, .int .i64 fl, .int .i64 fm, .bool int, .int .i64 q, .slice sa sn sc, .slice ra n rc, .int .i64 z] 32))
  generalize w.alloc (.cells #[.int .i64 rf, .int .i64 fl, .int .i64 fm, .bool int, .int .i64 q, .slice sa sn sc, .slice ra n rc, .int .i64 z] 32) = w1 at BA ⊢
  go_loopw [3, 6, 14] (fun v _ i wr => ∃ k : Nat, k ≤ n ∧ i = .int .i64 k ∧ wr.ownsRow w1.heap.size 3 1 v k ((R.map fun r => Value.int .i64 (r.sum : Int)).take k) ∧ Below w1.heap.size w1 wr) (fun _ _ i _ => n - (intOf i).toNat)
  case atStart => exact ⟨0, Nat.zero_le _, rfl, World.ownsRow_nil _ _ _ _, Below.refl _ _⟩
  case round =>
    obtain ⟨k, hk, rfl, hown, hbel⟩ := hrel
    by_cases hlt : (k : Int) < (n : Int)
    · have hkR : k < R.length := by have := hn.out; omega
      obtain ⟨b, off, rfl, hb, h1, h2, h3, h4, h5⟩ := (hR.out.below (BA.out.trans (hbel.mono BA.out.size))) k hkR
      have hbd := hB.out.2 R[k] (List.getElem_mem hkR)
      have htk : (R.map fun r => Value.int .i64 (r.sum : Int)).take (k + 1) = (R.map fun r => Value.int .i64 (r.sum : Int)).take k ++ [Value.int .i64 (R[k].sum : Int)] := by rw [List.take_succ_eq_append_getElem (by simpa using hkR), List.getElem_map]
      rcases hr : R[k] with ⟨hd, id, qq, ca, cc, cs⟩
      rw [hr] at h1 h2 h3 h4 h5 hbd htk
      simp only at h1 h2 h3 h4 h5 hbd
      have HTK := hide htk
      have HBEL := hide hbel
      have HS := hide hbel.size
      have HC := hide h5
      have HBD := hide hbd
      have hc200 := hbd.1
      clear hr htk hbd h5 hbel
      go_wp2_with fail
      have BW := hide (below_alloc (Below.refl wr.heap.size wr) (.cells #[.bool hd, .int .i64 id, .int .i64 qq, .slice ca cs.length cc] 42))
      have hown1 := hide (hown.alloc (.cells #[.bool hd, .int .i64 id, .int .i64 qq, .slice ca cs.length cc] 42))
      clear hown h1 h2 h3 h4 hb
      generalize wr.alloc (.cells #[.bool hd, .int .i64 id, .int .i64 qq, .slice ca cs.length cc] 42) = w2 at BW hown1 ⊢
      go_loopw [6, 21] (fun s i w3 => ∃ j S : Nat, j ≤ cs.length ∧ i = .int .i64 j ∧ s = .int .i64 (S : Int) ∧ S ≤ j * 600 ∧ Below w2.heap.size w2 w3 ∧ S = csum cs j) (fun _ i _ => cs.length - (intOf i).toNat)
      case atStart => exact ⟨0, 0, Nat.zero_le _, rfl, rfl, by omega, Below.refl _ _, rfl⟩
      case round =>
        obtain ⟨j, S, hj, rfl, rfl, hS0, hb3, hSe⟩ := hrel
        rename World => w3
        have HSE := hide hSe
        have HB3 := hide hb3
        by_cases hlt2 : (j : Int) < (cs.length : Int)
        · have hjR : j < cs.length := by omega
          obtain ⟨b2, off2, rfl, hb2, hcr, hcl, hc1, hcd⟩ := (HC.out.below (BW.out.trans (hb3.mono BW.out.size))) j hjR
          have hs1 := sum_take_succ CellD.sum cs j hjR
          have he := HBD.out.2 cs[j] (List.getElem_mem hjR)
          have hr2 := cells_events w3 cs[j] hcd
          rcases hr : cs[j] with ⟨cl, ⟨a0, n0, c0⟩, ⟨a1, n1, c1⟩, ⟨a2, n2, c2⟩, ⟨a3, n3, c3⟩, ⟨a4, n4, c4⟩, ⟨a5, n5, c5⟩⟩
          rw [hr] at hcr hcl hc1 hcd hs1 he hr2
          unfold Ev.v at hr2
          simp only at hcr hcl hc1 hcd he hr2
          obtain ⟨k0, k1, k2, k3, k4, k5⟩ := he
          have HS1 := hide hs1
          have HCR := hide hcr
          have HR2 := hide hr2
          have HI := hide (show (Try.prog.info? 48).map (·.size) = some cl.length by rw [hcl]; exact size48)
          have HI2 := hide (show (Try.prog.info? 48).map (·.size) = some cl.toArray.size by rw [List.size_toArray, hcl]; exact size48)
          have HSZ := hide (show 18 = cl.toArray.size by rw [List.size_toArray, hcl])
          have HCL := hide hcl
          have HC1 := hide hc1
          clear hs1 hb3 hr hSe hcr hr2 hcl hc1 hcd
          go_wp2_with (first
            | (refine wpList_load_mid (op := ⟨some 24, _, _, _, _, _⟩) rfl 48 (.tmp 23) rfl b2 (off2 + j * 18) rfl cl _ HCR.out Try.underlying48 rfl HI.out ?_)
            | (refine wpList_store_new (op := ⟨none, _, _, _, _, _⟩) rfl 48 (.tmp 8) (.tmp 24) rfl w3.heap.size rfl _ cl.toArray rfl rfl HI2.out HSZ.out (all_oneCell_toArray HC1.out) ?_)
            | (refine wpList_load_mid (op := ⟨some 26, _, _, _, _, _⟩) rfl 46 (.tmp 25) rfl w3.heap.size 12 rfl _ _ HR2.out Try.underlying46 rfl size46 ?_))
          refine wp_loop_rounds 7 ?_
          rw [rounds_succ]
          go_wp2_with fail
          rw [rounds_succ]
          go_wp2_with fail
          rw [rounds_succ]
          go_wp2_with fail
          rw [rounds_succ]
          go_wp2_with fail
          rw [rounds_succ]
          go_wp2_with fail
          rw [rounds_succ]
          go_wp2_with fail
          rw [rounds_succ]
          go_wp2_with fail
          go_roundw
          case rel => exact ⟨j + 1, S + (n0 + n1 + n2 + n3 + n4 + n5), by omega, by go_num, by go_num, by omega, below_alloc_le HB3.out _ HB3.out.size, by unfold csum; rw [HS1.out, HSE.out]; rfl⟩
          case measure => simp [intOf]; omega
        · have hje : j = cs.length := by omega
          have hS : S = RowD.sum ⟨hd, id, qq, ca, cc, cs⟩ := by rw [hSe, hje]; unfold csum RowD.sum; rw [List.take_length]
          have HSS := hide hS
          have hown := own_below hown1.out HB3.out
          have HBL := hide ((HBEL.out.trans (BW.out.mono HBEL.out.size)).trans (HB3.out.mono (Nat.le_trans HBEL.out.size BW.out.size)))
          have HS3 := hide HBL.out.size
          clear hS hSe hb3 hje hown1
          go_wp2_with (first | (at_builtin; refine wpList_append_own _ rfl _ _ 26 rfl w1.heap.size 3 i0 (.int .i64 0) 1 8 Try.underlying26 hi hz0 hz1 hz2 rfl (by decide) _ _ _ rfl (hown.alloc _) ⟨w3.heap.size, 0, none⟩ 1 1 [.int .i64 (S : Int)] rfl rfl ?x1 ?x2 ?x3 ?x4 ?x5 ?_))
          try (case x1 => exact World.news_of_block (cs := #[.int .i64 (S : Int)]) (t := 3) (fr := (0, 0)) (heap_alloc_new w3 _))
          case x2 => simp [Value.oneCell']
          case x3 => unfold maxLen; omega
          case x4 => omega
          case x5 => have := HS3.out; simp; omega
          intro v' w2 hown2 hgrow _
          have HB2 := hide ((below_alloc_le HBL.out (.cells #[.int .i64 (S : Int)] 3) HS3.out).grown hgrow (by have := HS3.out; simp; omega) (fun q hq => (hown.lt q hq).1))
          clear hgrow
          have HO2 := hide hown2
          clear hown hown2
          go_wp2
          go_roundw
          case rel => exact ⟨k + 1, by omega, by go_num, by have h := HO2.out; rw [HSS.out] at h; rw [HTK.out]; exact h, HB2.out⟩
          case measure => simp [intOf]; omega
    · have hkn : k = n := by omega
      have htk : (R.map fun r => Value.int .i64 (r.sum : Int)).take k = (R.map fun r => (r.sum : Int)).map (Value.int .i64) := by rw [hkn, ← hn.out, List.map_map, List.take_of_length_le (by simp)]; rfl
      have HTK := hide htk
      have HKN := hide hkn
      have HB3 := hide hbel
      have HO := hide hown
      clear htk hkn hbel hown
      go_wp2
      go_ret
      refine ⟨_, rfl, ?_, BA.out.trans (HB3.out.mono BA.out.size)⟩
      have h := HO.out
      rw [HTK.out, HKN.out, ← hn.out] at h
      exact IsInts.of_own (base := w1.heap.size) (by rw [List.length_map]; exact h)

theorem events_call (rf fl fm : Int) (int : Bool) (q : Int) (sa : Option Addr) (sn sc : Nat) (ra : Option Addr) (rc : Nat) (z : Int) (R : List RowD) (w : World) (hR : IsRows w ra R) (hB : Bnd R) :
    Calls Try.prog 13 #[sheetV rf fl fm int q sa sn sc ra R.length rc z] w (MadeInts (R.map fun r => (r.sum : Int)) w) :=
  events_go rf fl fm int q sa sn sc ra R.length rc z R w hR rfl hB hB.1
end Go.Proofs.Ytflicgngejnajaa
