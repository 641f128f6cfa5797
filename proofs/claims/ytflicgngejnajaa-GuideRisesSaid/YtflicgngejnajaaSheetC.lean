/- The walk of guide.Rows. -/
import Derived.Test.YtflicgngejnajaaSheetB
namespace Go.Proofs.Ytflicgngejnajaa
open Go.RowKit
set_option linter.unusedVariables false
set_option linter.unusedSimpArgs false
attribute [local go_sem] setCell_drewN alloc_drewN
attribute [local irreducible] wpList

theorem share_one {S : Int} {n : Nat} (h0 : 0 ≤ S) (h1 : S ≤ 2147483647) (h2 : 1 ≤ n) (h3 : n ≤ 30) : share S 1 (n : Int) = S / (n : Int) := by
  unfold share
  have e1 : clip S 0 2147483647 = S := by unfold clip; rw [if_neg (by omega), if_neg (by omega), if_neg (by omega)]
  have e2 : clip (n : Int) 0 2147483647 = (n : Int) := by unfold clip; rw [if_neg (by omega), if_neg (by omega), if_neg (by omega)]
  have e3 : clip 1 0 (n : Int) = 1 := by unfold clip; rw [if_neg (by omega), if_neg (by omega), if_neg (by omega)]
  rw [e1, e2, e3, if_neg (by omega), Int.mul_one]

theorem isum_take_succ (l : List Int) (k : Nat) (h : k < l.length) : (l.take (k + 1)).sum = (l.take k).sum + l[k] := by
  rw [List.take_succ_eq_append_getElem h, List.sum_append]
  simp

theorem isum_bd {l : List Int} (h : ∀ x ∈ l, 0 ≤ x ∧ x ≤ 120000) (k : Nat) : 0 ≤ (l.take k).sum ∧ (l.take k).sum ≤ k * 120000 := by
  induction k with
  | zero => simp
  | succ k ih =>
    by_cases hk : k < l.length
    · rw [isum_take_succ _ _ hk]
      have := h l[k] (List.getElem_mem hk)
      omega
    · rw [List.take_of_length_le (by omega)]
      rw [List.take_of_length_le (by omega)] at ih
      omega

theorem events_bd {R : List RowD} (hB : Bnd R) : ∀ x ∈ R.map (fun r => (r.sum : Int)), 0 ≤ x ∧ x ≤ 120000 := by
  intro x hx
  rw [List.mem_map] at hx
  obtain ⟨r, hr, rfl⟩ := hx
  obtain ⟨h1, h2⟩ := hB.2 r hr
  have h3 := cells_sum_le h2 r.cells.length
  rw [List.take_length] at h3
  unfold RowD.sum
  omega

/-- What a row's floor is. -/
def grow1 (ro pi : Bool) (f m x : Int) : Int := if ro = true ∧ pi = false ∧ m < x then min (f + 1) 31 else f
/-- All rows' floors, as cells. -/
def gcells (ro pi : Bool) (f m : Int) (L : List Int) : List Value := (L.map (grow1 ro pi f m)).map (Value.int .i64)


set_option maxHeartbeats 4000000 in
set_option maxRecDepth 100000 in
theorem rows_tt (bu dr le st tr : Int) (sf : Bool) (rf fl fm : Int) (int : Bool) (q : Int) (sa : Option Addr) (sn sc : Nat) (ra : Option Addr) (n rc : Nat) (z floor : Int) (L : List Int) (w : World) (hn : Hid (L.length = n)) (hL : Hid (∀ x ∈ L, 0 ≤ x ∧ x ≤ 120000)) (hn30 : n ≤ 30)
    (f S : Int) (hf : Hid (clip floor 1 31 = f)) (hf1 : 1 ≤ f) (hf2 : f ≤ 31) (hS : Hid (L.sum = S))
    (c1 : Hid (∀ W, Below w.heap.size w W → Calls Try.prog 13 #[sheetV rf fl fm int q sa sn sc ra n rc z] W (MadeInts L W))) :
    Calls Try.prog 15 #[confV bu dr le st tr true sf true, sheetV rf fl fm int q sa sn sc ra n rc z, .int .i64 floor] w (MadeInts (L.map (grow1 true true f (S / (n : Int)))) w) := by
  obtain ⟨i0, hi, hz0, hz1, hz2⟩ := info_parts info3
  have c2 := hide (fun W => clip_call floor 1 31 W)
  rw [hf.out] at c2
  go_enter Try.func15, Try.ntmps15
  go_wp2_with fail
  refine (c1.out _ (below_alloc (below_alloc (Below.refl _ _) _) _)).mono ?_
  rintro e w1 ⟨v, rfl, hv, hb⟩
  have g5 : w1.cell? ⟨w.heap.size, 5, none⟩ = some (.bool true) := by rw [hb.cell (by simp; omega)]; simp [go_sem]
  have g7 : w1.cell? ⟨w.heap.size, 7, none⟩ = some (.bool true) := by rw [hb.cell (by simp; omega)]; simp [go_sem]
  have gs : w.heap.size < w1.heap.size := by have := hb.size; simp at this; omega
  have BA := hide ((below_alloc (below_alloc (Below.refl w.heap.size w) _) _).trans (hb.mono (by simp; omega)))
  clear hb
  obtain ⟨a, cap, hv, hc⟩ := hv
  rw [hn.out] at hv
  have HC := hide hc
  clear hc
  rw [hv]
  clear hv v
  have G5 := hide g5
  have G7 := hide g7
  clear g5 g7
  go_wp2_with fail
  go_loop [8, 18] (fun s i => ∃ (k : Nat) (P : Int), k ≤ n ∧ i = .int .i64 k ∧ s = .int .i64 P ∧ 0 ≤ P ∧ P ≤ k * 120000 ∧ P = (L.take k).sum) (fun _ i => n - (intOf i).toNat)
  case atStart => exact ⟨0, 0, Nat.zero_le _, rfl, rfl, by omega, by omega, rfl⟩
  case round =>
    obtain ⟨k, P, hk, rfl, rfl, hP0, hP1, hPe⟩ := hrel
    have HPE := hide hPe
    clear hPe
    by_cases hlt : (k : Int) < (n : Int)
    · have hkL : k < L.length := by have := hn.out; omega
      obtain ⟨b, off, rfl, hb, hcell⟩ := HC.out (by intro h; rw [h] at hkL; simp at hkL)
      have hck := hcell k hkL
      have hx := hL.out L[k] (List.getElem_mem hkL)
      have htk := isum_take_succ L k hkL
      rw [List.getD_eq_getElem?_getD, List.getElem?_eq_getElem hkL, Option.getD_some] at hck
      generalize L[k] = x at hck hx htk
      obtain ⟨hx0, hx1⟩ := hx
      have HTK := hide htk
      clear htk hcell
      go_wp2
      go_round
      case rel => exact ⟨k + 1, P + x, by omega, by go_num, rfl, by omega, by omega, by rw [HTK.out, HPE.out]⟩
      case measure => simp [intOf]; omega
    · have hkn : k = n := by omega
      have hPS : P = S := by rw [HPE.out, hkn, ← hn.out, List.take_length]; exact hS.out
      have HPS := hide hPS
      clear hkn hPS
      go_wp2_with fail
      refine (c2.out _).mono ?_
      rintro e w' ⟨rfl, rfl⟩
      go_wp2_with fail
      go_loopw [11, 30] (fun v i wr2 => ∃ k : Nat, k ≤ n ∧ i = .int .i64 k ∧ wr2.ownsRow w1.heap.size 3 1 v k ((gcells true true f (S / (n : Int)) L).take k) ∧ Below w1.heap.size w1 wr2) (fun _ i _ => n - (intOf i).toNat)
      case atStart => exact ⟨0, Nat.zero_le _, rfl, World.ownsRow_nil _ _ _ _, Below.refl _ _⟩
      case round =>
        rename Nat => kk
        obtain ⟨k, hk, rfl, hown, hbel⟩ := hrel
        rename World => wr2
        by_cases hlt : (k : Int) < (n : Int)
        · have hkL : k < L.length := by have := hn.out; omega
          obtain ⟨b, off, rfl, hb, hcell⟩ := HC.out (by intro h; rw [h] at hkL; simp at hkL)
          have hck := hcell k hkL
          rw [← hbel.cell (p := ⟨b, off + k, none⟩) hb] at hck
          have hx := hL.out L[k] (List.getElem_mem hkL)
          have htk : (gcells true true f (S / (n : Int)) L).take (k + 1) = (gcells true true f (S / (n : Int)) L).take k ++ [Value.int .i64 (grow1 true true f (S / (n : Int)) L[k])] := by
            unfold gcells; rw [List.take_succ_eq_append_getElem (by simpa using hkL), List.getElem_map, List.getElem_map]
          rw [List.getD_eq_getElem?_getD, List.getElem?_eq_getElem hkL, Option.getD_some] at hck
          generalize L[k] = x at hck hx htk
          obtain ⟨hx0, hx1⟩ := hx
          have HTK := hide htk
          have q5 : wr2.cell? ⟨w.heap.size, 5, none⟩ = some (.bool true) := by rw [hbel.cell gs]; exact G5.out
          have q7 : wr2.cell? ⟨w.heap.size, 7, none⟩ = some (.bool true) := by rw [hbel.cell gs]; exact G7.out
          have HBL := hide hbel
          have HS3 := hide hbel.size
          clear htk hcell hbel
          have hgr : grow1 true true f (S / (n : Int)) x = f := by unfold grow1; rw [if_neg (by simp)]
          have HGR := hide hgr
          clear hgr
          go_wp2_with (first | (at_builtin; refine wpList_append_own _ rfl _ _ 26 rfl w1.heap.size 3 i0 (.int .i64 0) 1 8 Try.underlying26 hi hz0 hz1 hz2 rfl (by decide) _ _ _ rfl (hown.alloc _) ⟨wr2.heap.size, 0, none⟩ 1 1 [.int .i64 f] rfl rfl ?z1 ?z2 ?z3 ?z4 ?z5 ?_))
          try (case z1 => exact World.news_of_block (cs := #[.int .i64 f]) (t := 3) (fr := (0, 0)) (heap_alloc_new wr2 _))
          case z2 => simp [Value.oneCell']
          case z3 => unfold maxLen; omega
          case z4 => omega
          case z5 => have := HS3.out; simp; omega
          intro v' w2 hown2 hgrow _
          have HB2 := hide ((below_alloc_le HBL.out (.cells #[.int .i64 f] 3) HS3.out).grown hgrow (by have := HS3.out; simp; omega) (fun q hq => (hown.lt q hq).1))
          clear hgrow
          clear hown
          go_wp2
          go_roundw
          case rel => exact ⟨k + 1, by omega, by go_num, by rw [HTK.out, HGR.out]; exact hown2, HB2.out⟩
          case measure => simp [intOf]; omega
        · have hkn : k = n := by omega
          have htk : (gcells true true f (S / (n : Int)) L).take k = gcells true true f (S / (n : Int)) L := by rw [hkn]; refine List.take_of_length_le ?_; unfold gcells; rw [← hn.out]; simp
          have HTK := hide htk
          have HKN := hide hkn
          have HB3 := hide hbel
          have HO := hide hown
          clear htk hkn hbel hown
          go_wp2
          go_ret
          refine ⟨_, rfl, ?_, BA.out.trans (HB3.out.mono BA.out.size)⟩
          have h := HO.out
          rw [HTK.out, HKN.out] at h
          exact IsInts.of_own (base := w1.heap.size) (by rw [List.length_map, hn.out]; exact h)

set_option maxHeartbeats 4000000 in
set_option maxRecDepth 100000 in
theorem rows_tf (bu dr le st tr : Int) (sf : Bool) (rf fl fm : Int) (int : Bool) (q : Int) (sa : Option Addr) (sn sc : Nat) (ra : Option Addr) (n rc : Nat) (z floor : Int) (L : List Int) (w : World) (hn : Hid (L.length = n)) (hL : Hid (∀ x ∈ L, 0 ≤ x ∧ x ≤ 120000)) (hn30 : n ≤ 30)
    (f S : Int) (hf : Hid (clip floor 1 31 = f)) (hf1 : 1 ≤ f) (hf2 : f ≤ 31) (hS : Hid (L.sum = S))
    (c1 : Hid (∀ W, Below w.heap.size w W → Calls Try.prog 13 #[sheetV rf fl fm int q sa sn sc ra n rc z] W (MadeInts L W))) :
    Calls Try.prog 15 #[confV bu dr le st tr true sf false, sheetV rf fl fm int q sa sn sc ra n rc z, .int .i64 floor] w (MadeInts (L.map (grow1 true false f (S / (n : Int)))) w) := by
  obtain ⟨i0, hi, hz0, hz1, hz2⟩ := info_parts info3
  have c2 := hide (fun W => clip_call floor 1 31 W)
  rw [hf.out] at c2
  go_enter Try.func15, Try.ntmps15
  go_wp2_with fail
  refine (c1.out _ (below_alloc (below_alloc (Below.refl _ _) _) _)).mono ?_
  rintro e w1 ⟨v, rfl, hv, hb⟩
  have g5 : w1.cell? ⟨w.heap.size, 5, none⟩ = some (.bool true) := by rw [hb.cell (by simp; omega)]; simp [go_sem]
  have g7 : w1.cell? ⟨w.heap.size, 7, none⟩ = some (.bool false) := by rw [hb.cell (by simp; omega)]; simp [go_sem]
  have gs : w.heap.size < w1.heap.size := by have := hb.size; simp at this; omega
  have BA := hide ((below_alloc (below_alloc (Below.refl w.heap.size w) _) _).trans (hb.mono (by simp; omega)))
  clear hb
  obtain ⟨a, cap, hv, hc⟩ := hv
  rw [hn.out] at hv
  have HC := hide hc
  clear hc
  rw [hv]
  clear hv v
  have G5 := hide g5
  have G7 := hide g7
  clear g5 g7
  go_wp2_with fail
  go_loop [8, 18] (fun s i => ∃ (k : Nat) (P : Int), k ≤ n ∧ i = .int .i64 k ∧ s = .int .i64 P ∧ 0 ≤ P ∧ P ≤ k * 120000 ∧ P = (L.take k).sum) (fun _ i => n - (intOf i).toNat)
  case atStart => exact ⟨0, 0, Nat.zero_le _, rfl, rfl, by omega, by omega, rfl⟩
  case round =>
    obtain ⟨k, P, hk, rfl, rfl, hP0, hP1, hPe⟩ := hrel
    have HPE := hide hPe
    clear hPe
    by_cases hlt : (k : Int) < (n : Int)
    · have hkL : k < L.length := by have := hn.out; omega
      obtain ⟨b, off, rfl, hb, hcell⟩ := HC.out (by intro h; rw [h] at hkL; simp at hkL)
      have hck := hcell k hkL
      have hx := hL.out L[k] (List.getElem_mem hkL)
      have htk := isum_take_succ L k hkL
      rw [List.getD_eq_getElem?_getD, List.getElem?_eq_getElem hkL, Option.getD_some] at hck
      generalize L[k] = x at hck hx htk
      obtain ⟨hx0, hx1⟩ := hx
      have HTK := hide htk
      clear htk hcell
      go_wp2
      go_round
      case rel => exact ⟨k + 1, P + x, by omega, by go_num, rfl, by omega, by omega, by rw [HTK.out, HPE.out]⟩
      case measure => simp [intOf]; omega
    · have hkn : k = n := by omega
      have hPS : P = S := by rw [HPE.out, hkn, ← hn.out, List.take_length]; exact hS.out
      have HPS := hide hPS
      clear hkn hPS
      go_wp2_with fail
      refine (c2.out _).mono ?_
      rintro e w' ⟨rfl, rfl⟩
      go_wp2_with fail
      go_loopw [11, 30] (fun v i wr2 => ∃ k : Nat, k ≤ n ∧ i = .int .i64 k ∧ wr2.ownsRow w1.heap.size 3 1 v k ((gcells true false f (S / (n : Int)) L).take k) ∧ Below w1.heap.size w1 wr2) (fun _ i _ => n - (intOf i).toNat)
      case atStart => exact ⟨0, Nat.zero_le _, rfl, World.ownsRow_nil _ _ _ _, Below.refl _ _⟩
      case round =>
        rename Nat => kk
        obtain ⟨k, hk, rfl, hown, hbel⟩ := hrel
        rename World => wr2
        by_cases hlt : (k : Int) < (n : Int)
        · have hkL : k < L.length := by have := hn.out; omega
          obtain ⟨b, off, rfl, hb, hcell⟩ := HC.out (by intro h; rw [h] at hkL; simp at hkL)
          have hck := hcell k hkL
          rw [← hbel.cell (p := ⟨b, off + k, none⟩) hb] at hck
          have hx := hL.out L[k] (List.getElem_mem hkL)
          have htk : (gcells true false f (S / (n : Int)) L).take (k + 1) = (gcells true false f (S / (n : Int)) L).take k ++ [Value.int .i64 (grow1 true false f (S / (n : Int)) L[k])] := by
            unfold gcells; rw [List.take_succ_eq_append_getElem (by simpa using hkL), List.getElem_map, List.getElem_map]
          rw [List.getD_eq_getElem?_getD, List.getElem?_eq_getElem hkL, Option.getD_some] at hck
          generalize L[k] = x at hck hx htk
          obtain ⟨hx0, hx1⟩ := hx
          have HTK := hide htk
          have q5 : wr2.cell? ⟨w.heap.size, 5, none⟩ = some (.bool true) := by rw [hbel.cell gs]; exact G5.out
          have q7 : wr2.cell? ⟨w.heap.size, 7, none⟩ = some (.bool false) := by rw [hbel.cell gs]; exact G7.out
          have HBL := hide hbel
          have HS3 := hide hbel.size
          clear htk hcell hbel
          have hsh : share P 1 (n : Int) = S / (n : Int) := by rw [← HPS.out]; exact share_one hP0 (by omega) (by omega) hn30
          have c3 := hide (fun W => share_call P 1 (n : Int) W)
          rw [hsh] at c3
          clear hsh
          generalize S / (n : Int) = m at *
          go_wp2_with fail
          refine (c3.out _).mono ?_
          rintro e w' ⟨rfl, rfl⟩
          by_cases hm : m < x
          · have hgr : grow1 true false f m x = if f + 1 ≤ 31 then f + 1 else 31 := by unfold grow1; rw [if_pos ⟨rfl, rfl, hm⟩]; rw [Int.min_def]
            have HGR := hide hgr
            clear hgr
            by_cases hf3 : f < 31
            · go_wp2_with (first | (at_builtin; refine wpList_append_own _ rfl _ _ 26 rfl w1.heap.size 3 i0 (.int .i64 0) 1 8 Try.underlying26 hi hz0 hz1 hz2 rfl (by decide) _ _ _ rfl (hown.alloc _) ⟨wr2.heap.size, 0, none⟩ 1 1 [.int .i64 (f + 1)] rfl rfl ?x1 ?x2 ?x3 ?x4 ?x5 ?_))
              try (case x1 => exact World.news_of_block (cs := #[.int .i64 (f + 1)]) (t := 3) (fr := (0, 0)) (heap_alloc_new wr2 _))
              case x2 => simp [Value.oneCell']
              case x3 => unfold maxLen; omega
              case x4 => omega
              case x5 => have := HS3.out; simp; omega
              intro v' w2 hown2 hgrow _
              have HB2 := hide ((below_alloc_le HBL.out (.cells #[.int .i64 (f + 1)] 3) HS3.out).grown hgrow (by have := HS3.out; simp; omega) (fun q hq => (hown.lt q hq).1))
              clear hgrow
              clear hown
              go_wp2
              go_roundw
              case rel => exact ⟨k + 1, by omega, by go_num, by rw [HTK.out, HGR.out, if_pos (by omega)]; exact hown2, HB2.out⟩
              case measure => simp [intOf]; omega
            · go_wp2_with (first | (at_builtin; refine wpList_append_own _ rfl _ _ 26 rfl w1.heap.size 3 i0 (.int .i64 0) 1 8 Try.underlying26 hi hz0 hz1 hz2 rfl (by decide) _ _ _ rfl (hown.alloc _) ⟨wr2.heap.size, 0, none⟩ 1 1 [.int .i64 31] rfl rfl ?y1 ?y2 ?y3 ?y4 ?y5 ?_))
              try (case y1 => exact World.news_of_block (cs := #[.int .i64 31]) (t := 3) (fr := (0, 0)) (heap_alloc_new wr2 _))
              case y2 => simp [Value.oneCell']
              case y3 => unfold maxLen; omega
              case y4 => omega
              case y5 => have := HS3.out; simp; omega
              intro v' w2 hown2 hgrow _
              have HB2 := hide ((below_alloc_le HBL.out (.cells #[.int .i64 31] 3) HS3.out).grown hgrow (by have := HS3.out; simp; omega) (fun q hq => (hown.lt q hq).1))
              clear hgrow
              clear hown
              go_wp2
              go_roundw
              case rel => exact ⟨k + 1, by omega, by go_num, by rw [HTK.out, HGR.out, if_neg (by omega)]; exact hown2, HB2.out⟩
              case measure => simp [intOf]; omega
          · have hgr : grow1 true false f m x = f := by unfold grow1; rw [if_neg (fun h => hm h.2.2)]
            have HGR := hide hgr
            clear hgr
            go_wp2_with (first | (at_builtin; refine wpList_append_own _ rfl _ _ 26 rfl w1.heap.size 3 i0 (.int .i64 0) 1 8 Try.underlying26 hi hz0 hz1 hz2 rfl (by decide) _ _ _ rfl (hown.alloc _) ⟨wr2.heap.size, 0, none⟩ 1 1 [.int .i64 f] rfl rfl ?z1 ?z2 ?z3 ?z4 ?z5 ?_))
            try (case z1 => exact World.news_of_block (cs := #[.int .i64 f]) (t := 3) (fr := (0, 0)) (heap_alloc_new wr2 _))
            case z2 => simp [Value.oneCell']
            case z3 => unfold maxLen; omega
            case z4 => omega
            case z5 => have := HS3.out; simp; omega
            intro v' w2 hown2 hgrow _
            have HB2 := hide ((below_alloc_le HBL.out (.cells #[.int .i64 f] 3) HS3.out).grown hgrow (by have := HS3.out; simp; omega) (fun q hq => (hown.lt q hq).1))
            clear hgrow
            clear hown
            go_wp2
            go_roundw
            case rel => exact ⟨k + 1, by omega, by go_num, by rw [HTK.out, HGR.out]; exact hown2, HB2.out⟩
            case measure => simp [intOf]; omega
        · have hkn : k = n := by omega
          have htk : (gcells true false f (S / (n : Int)) L).take k = gcells true false f (S / (n : Int)) L := by rw [hkn]; refine List.take_of_length_le ?_; unfold gcells; rw [← hn.out]; simp
          have HTK := hide htk
          have HKN := hide hkn
          have HB3 := hide hbel
          have HO := hide hown
          clear htk hkn hbel hown
          go_wp2
          go_ret
          refine ⟨_, rfl, ?_, BA.out.trans (HB3.out.mono BA.out.size)⟩
          have h := HO.out
          rw [HTK.out, HKN.out] at h
          exact IsInts.of_own (base := w1.heap.size) (by rw [List.length_map, hn.out]; exact h)

set_option maxHeartbeats 4000000 in
set_option maxRecDepth 100000 in
theorem rows_ft (bu dr le st tr : Int) (sf : Bool) (rf fl fm : Int) (int : Bool) (q : Int) (sa : Option Addr) (sn sc : Nat) (ra : Option Addr) (n rc : Nat) (z floor : Int) (L : List Int) (w : World) (hn : Hid (L.length = n)) (hL : Hid (∀ x ∈ L, 0 ≤ x ∧ x ≤ 120000)) (hn30 : n ≤ 30)
    (f S : Int) (hf : Hid (clip floor 1 31 = f)) (hf1 : 1 ≤ f) (hf2 : f ≤ 31) (hS : Hid (L.sum = S))
    (c1 : Hid (∀ W, Below w.heap.size w W → Calls Try.prog 13 #[sheetV rf fl fm int q sa sn sc ra n rc z] W (MadeInts L W))) :
    Calls Try.prog 15 #[confV bu dr le st tr false sf true, sheetV rf fl fm int q sa sn sc ra n rc z, .int .i64 floor] w (MadeInts (L.map (grow1 false true f (S / (n : Int)))) w) := by
  obtain ⟨i0, hi, hz0, hz1, hz2⟩ := info_parts info3
  have c2 := hide (fun W => clip_call floor 1 31 W)
  rw [hf.out] at c2
  go_enter Try.func15, Try.ntmps15
  go_wp2_with fail
  refine (c1.out _ (below_alloc (below_alloc (Below.refl _ _) _) _)).mono ?_
  rintro e w1 ⟨v, rfl, hv, hb⟩
  have g5 : w1.cell? ⟨w.heap.size, 5, none⟩ = some (.bool false) := by rw [hb.cell (by simp; omega)]; simp [go_sem]
  have g7 : w1.cell? ⟨w.heap.size, 7, none⟩ = some (.bool true) := by rw [hb.cell (by simp; omega)]; simp [go_sem]
  have gs : w.heap.size < w1.heap.size := by have := hb.size; simp at this; omega
  have BA := hide ((below_alloc (below_alloc (Below.refl w.heap.size w) _) _).trans (hb.mono (by simp; omega)))
  clear hb
  obtain ⟨a, cap, hv, hc⟩ := hv
  rw [hn.out] at hv
  have HC := hide hc
  clear hc
  rw [hv]
  clear hv v
  have G5 := hide g5
  have G7 := hide g7
  clear g5 g7
  go_wp2_with fail
  go_loop [8, 18] (fun s i => ∃ (k : Nat) (P : Int), k ≤ n ∧ i = .int .i64 k ∧ s = .int .i64 P ∧ 0 ≤ P ∧ P ≤ k * 120000 ∧ P = (L.take k).sum) (fun _ i => n - (intOf i).toNat)
  case atStart => exact ⟨0, 0, Nat.zero_le _, rfl, rfl, by omega, by omega, rfl⟩
  case round =>
    obtain ⟨k, P, hk, rfl, rfl, hP0, hP1, hPe⟩ := hrel
    have HPE := hide hPe
    clear hPe
    by_cases hlt : (k : Int) < (n : Int)
    · have hkL : k < L.length := by have := hn.out; omega
      obtain ⟨b, off, rfl, hb, hcell⟩ := HC.out (by intro h; rw [h] at hkL; simp at hkL)
      have hck := hcell k hkL
      have hx := hL.out L[k] (List.getElem_mem hkL)
      have htk := isum_take_succ L k hkL
      rw [List.getD_eq_getElem?_getD, List.getElem?_eq_getElem hkL, Option.getD_some] at hck
      generalize L[k] = x at hck hx htk
      obtain ⟨hx0, hx1⟩ := hx
      have HTK := hide htk
      clear htk hcell
      go_wp2
      go_round
      case rel => exact ⟨k + 1, P + x, by omega, by go_num, rfl, by omega, by omega, by rw [HTK.out, HPE.out]⟩
      case measure => simp [intOf]; omega
    · have hkn : k = n := by omega
      have hPS : P = S := by rw [HPE.out, hkn, ← hn.out, List.take_length]; exact hS.out
      have HPS := hide hPS
      clear hkn hPS
      go_wp2_with fail
      refine (c2.out _).mono ?_
      rintro e w' ⟨rfl, rfl⟩
      go_wp2_with fail
      go_loopw [11, 30] (fun v i wr2 => ∃ k : Nat, k ≤ n ∧ i = .int .i64 k ∧ wr2.ownsRow w1.heap.size 3 1 v k ((gcells false true f (S / (n : Int)) L).take k) ∧ Below w1.heap.size w1 wr2) (fun _ i _ => n - (intOf i).toNat)
      case atStart => exact ⟨0, Nat.zero_le _, rfl, World.ownsRow_nil _ _ _ _, Below.refl _ _⟩
      case round =>
        rename Nat => kk
        obtain ⟨k, hk, rfl, hown, hbel⟩ := hrel
        rename World => wr2
        by_cases hlt : (k : Int) < (n : Int)
        · have hkL : k < L.length := by have := hn.out; omega
          obtain ⟨b, off, rfl, hb, hcell⟩ := HC.out (by intro h; rw [h] at hkL; simp at hkL)
          have hck := hcell k hkL
          rw [← hbel.cell (p := ⟨b, off + k, none⟩) hb] at hck
          have hx := hL.out L[k] (List.getElem_mem hkL)
          have htk : (gcells false true f (S / (n : Int)) L).take (k + 1) = (gcells false true f (S / (n : Int)) L).take k ++ [Value.int .i64 (grow1 false true f (S / (n : Int)) L[k])] := by
            unfold gcells; rw [List.take_succ_eq_append_getElem (by simpa using hkL), List.getElem_map, List.getElem_map]
          rw [List.getD_eq_getElem?_getD, List.getElem?_eq_getElem hkL, Option.getD_some] at hck
          generalize L[k] = x at hck hx htk
          obtain ⟨hx0, hx1⟩ := hx
          have HTK := hide htk
          have q5 : wr2.cell? ⟨w.heap.size, 5, none⟩ = some (.bool false) := by rw [hbel.cell gs]; exact G5.out
          have q7 : wr2.cell? ⟨w.heap.size, 7, none⟩ = some (.bool true) := by rw [hbel.cell gs]; exact G7.out
          have HBL := hide hbel
          have HS3 := hide hbel.size
          clear htk hcell hbel
          have hgr : grow1 false true f (S / (n : Int)) x = f := by unfold grow1; rw [if_neg (by simp)]
          have HGR := hide hgr
          clear hgr
          go_wp2_with (first | (at_builtin; refine wpList_append_own _ rfl _ _ 26 rfl w1.heap.size 3 i0 (.int .i64 0) 1 8 Try.underlying26 hi hz0 hz1 hz2 rfl (by decide) _ _ _ rfl (hown.alloc _) ⟨wr2.heap.size, 0, none⟩ 1 1 [.int .i64 f] rfl rfl ?z1 ?z2 ?z3 ?z4 ?z5 ?_))
          try (case z1 => exact World.news_of_block (cs := #[.int .i64 f]) (t := 3) (fr := (0, 0)) (heap_alloc_new wr2 _))
          case z2 => simp [Value.oneCell']
          case z3 => unfold maxLen; omega
          case z4 => omega
          case z5 => have := HS3.out; simp; omega
          intro v' w2 hown2 hgrow _
          have HB2 := hide ((below_alloc_le HBL.out (.cells #[.int .i64 f] 3) HS3.out).grown hgrow (by have := HS3.out; simp; omega) (fun q hq => (hown.lt q hq).1))
          clear hgrow
          clear hown
          go_wp2
          go_roundw
          case rel => exact ⟨k + 1, by omega, by go_num, by rw [HTK.out, HGR.out]; exact hown2, HB2.out⟩
          case measure => simp [intOf]; omega
        · have hkn : k = n := by omega
          have htk : (gcells false true f (S / (n : Int)) L).take k = gcells false true f (S / (n : Int)) L := by rw [hkn]; refine List.take_of_length_le ?_; unfold gcells; rw [← hn.out]; simp
          have HTK := hide htk
          have HKN := hide hkn
          have HB3 := hide hbel
          have HO := hide hown
          clear htk hkn hbel hown
          go_wp2
          go_ret
          refine ⟨_, rfl, ?_, BA.out.trans (HB3.out.mono BA.out.size)⟩
          have h := HO.out
          rw [HTK.out, HKN.out] at h
          exact IsInts.of_own (base := w1.heap.size) (by rw [List.length_map, hn.out]; exact h)

set_option maxHeartbeats 4000000 in
set_option maxRecDepth 100000 in
theorem rows_ff (bu dr le st tr : Int) (sf : Bool) (rf fl fm : Int) (int : Bool) (q : Int) (sa : Option Addr) (sn sc : Nat) (ra : Option Addr) (n rc : Nat) (z floor : Int) (L : List Int) (w : World) (hn : Hid (L.length = n)) (hL : Hid (∀ x ∈ L, 0 ≤ x ∧ x ≤ 120000)) (hn30 : n ≤ 30)
    (f S : Int) (hf : Hid (clip floor 1 31 = f)) (hf1 : 1 ≤ f) (hf2 : f ≤ 31) (hS : Hid (L.sum = S))
    (c1 : Hid (∀ W, Below w.heap.size w W → Calls Try.prog 13 #[sheetV rf fl fm int q sa sn sc ra n rc z] W (MadeInts L W))) :
    Calls Try.prog 15 #[confV bu dr le st tr false sf false, sheetV rf fl fm int q sa sn sc ra n rc z, .int .i64 floor] w (MadeInts (L.map (grow1 false false f (S / (n : Int)))) w) := by
  obtain ⟨i0, hi, hz0, hz1, hz2⟩ := info_parts info3
  have c2 := hide (fun W => clip_call floor 1 31 W)
  rw [hf.out] at c2
  go_enter Try.func15, Try.ntmps15
  go_wp2_with fail
  refine (c1.out _ (below_alloc (below_alloc (Below.refl _ _) _) _)).mono ?_
  rintro e w1 ⟨v, rfl, hv, hb⟩
  have g5 : w1.cell? ⟨w.heap.size, 5, none⟩ = some (.bool false) := by rw [hb.cell (by simp; omega)]; simp [go_sem]
  have g7 : w1.cell? ⟨w.heap.size, 7, none⟩ = some (.bool false) := by rw [hb.cell (by simp; omega)]; simp [go_sem]
  have gs : w.heap.size < w1.heap.size := by have := hb.size; simp at this; omega
  have BA := hide ((below_alloc (below_alloc (Below.refl w.heap.size w) _) _).trans (hb.mono (by simp; omega)))
  clear hb
  obtain ⟨a, cap, hv, hc⟩ := hv
  rw [hn.out] at hv
  have HC := hide hc
  clear hc
  rw [hv]
  clear hv v
  have G5 := hide g5
  have G7 := hide g7
  clear g5 g7
  go_wp2_with fail
  go_loop [8, 18] (fun s i => ∃ (k : Nat) (P : Int), k ≤ n ∧ i = .int .i64 k ∧ s = .int .i64 P ∧ 0 ≤ P ∧ P ≤ k * 120000 ∧ P = (L.take k).sum) (fun _ i => n - (intOf i).toNat)
  case atStart => exact ⟨0, 0, Nat.zero_le _, rfl, rfl, by omega, by omega, rfl⟩
  case round =>
    obtain ⟨k, P, hk, rfl, rfl, hP0, hP1, hPe⟩ := hrel
    have HPE := hide hPe
    clear hPe
    by_cases hlt : (k : Int) < (n : Int)
    · have hkL : k < L.length := by have := hn.out; omega
      obtain ⟨b, off, rfl, hb, hcell⟩ := HC.out (by intro h; rw [h] at hkL; simp at hkL)
      have hck := hcell k hkL
      have hx := hL.out L[k] (List.getElem_mem hkL)
      have htk := isum_take_succ L k hkL
      rw [List.getD_eq_getElem?_getD, List.getElem?_eq_getElem hkL, Option.getD_some] at hck
      generalize L[k] = x at hck hx htk
      obtain ⟨hx0, hx1⟩ := hx
      have HTK := hide htk
      clear htk hcell
      go_wp2
      go_round
      case rel => exact ⟨k + 1, P + x, by omega, by go_num, rfl, by omega, by omega, by rw [HTK.out, HPE.out]⟩
      case measure => simp [intOf]; omega
    · have hkn : k = n := by omega
      have hPS : P = S := by rw [HPE.out, hkn, ← hn.out, List.take_length]; exact hS.out
      have HPS := hide hPS
      clear hkn hPS
      go_wp2_with fail
      refine (c2.out _).mono ?_
      rintro e w' ⟨rfl, rfl⟩
      go_wp2_with fail
      go_loopw [11, 30] (fun v i wr2 => ∃ k : Nat, k ≤ n ∧ i = .int .i64 k ∧ wr2.ownsRow w1.heap.size 3 1 v k ((gcells false false f (S / (n : Int)) L).take k) ∧ Below w1.heap.size w1 wr2) (fun _ i _ => n - (intOf i).toNat)
      case atStart => exact ⟨0, Nat.zero_le _, rfl, World.ownsRow_nil _ _ _ _, Below.refl _ _⟩
      case round =>
        rename Nat => kk
        obtain ⟨k, hk, rfl, hown, hbel⟩ := hrel
        rename World => wr2
        by_cases hlt : (k : Int) < (n : Int)
        · have hkL : k < L.length := by have := hn.out; omega
          obtain ⟨b, off, rfl, hb, hcell⟩ := HC.out (by intro h; rw [h] at hkL; simp at hkL)
          have hck := hcell k hkL
          rw [← hbel.cell (p := ⟨b, off + k, none⟩) hb] at hck
          have hx := hL.out L[k] (List.getElem_mem hkL)
          have htk : (gcells false false f (S / (n : Int)) L).take (k + 1) = (gcells false false f (S / (n : Int)) L).take k ++ [Value.int .i64 (grow1 false false f (S / (n : Int)) L[k])] := by
            unfold gcells; rw [List.take_succ_eq_append_getElem (by simpa using hkL), List.getElem_map, List.getElem_map]
          rw [List.getD_eq_getElem?_getD, List.getElem?_eq_getElem hkL, Option.getD_some] at hck
          generalize L[k] = x at hck hx htk
          obtain ⟨hx0, hx1⟩ := hx
          have HTK := hide htk
          have q5 : wr2.cell? ⟨w.heap.size, 5, none⟩ = some (.bool false) := by rw [hbel.cell gs]; exact G5.out
          have q7 : wr2.cell? ⟨w.heap.size, 7, none⟩ = some (.bool false) := by rw [hbel.cell gs]; exact G7.out
          have HBL := hide hbel
          have HS3 := hide hbel.size
          clear htk hcell hbel
          have hgr : grow1 false false f (S / (n : Int)) x = f := by unfold grow1; rw [if_neg (by simp)]
          have HGR := hide hgr
          clear hgr
          go_wp2_with (first | (at_builtin; refine wpList_append_own _ rfl _ _ 26 rfl w1.heap.size 3 i0 (.int .i64 0) 1 8 Try.underlying26 hi hz0 hz1 hz2 rfl (by decide) _ _ _ rfl (hown.alloc _) ⟨wr2.heap.size, 0, none⟩ 1 1 [.int .i64 f] rfl rfl ?z1 ?z2 ?z3 ?z4 ?z5 ?_))
          try (case z1 => exact World.news_of_block (cs := #[.int .i64 f]) (t := 3) (fr := (0, 0)) (heap_alloc_new wr2 _))
          case z2 => simp [Value.oneCell']
          case z3 => unfold maxLen; omega
          case z4 => omega
          case z5 => have := HS3.out; simp; omega
          intro v' w2 hown2 hgrow _
          have HB2 := hide ((below_alloc_le HBL.out (.cells #[.int .i64 f] 3) HS3.out).grown hgrow (by have := HS3.out; simp; omega) (fun q hq => (hown.lt q hq).1))
          clear hgrow
          clear hown
          go_wp2
          go_roundw
          case rel => exact ⟨k + 1, by omega, by go_num, by rw [HTK.out, HGR.out]; exact hown2, HB2.out⟩
          case measure => simp [intOf]; omega
        · have hkn : k = n := by omega
          have htk : (gcells false false f (S / (n : Int)) L).take k = gcells false false f (S / (n : Int)) L := by rw [hkn]; refine List.take_of_length_le ?_; unfold gcells; rw [← hn.out]; simp
          have HTK := hide htk
          have HKN := hide hkn
          have HB3 := hide hbel
          have HO := hide hown
          clear htk hkn hbel hown
          go_wp2
          go_ret
          refine ⟨_, rfl, ?_, BA.out.trans (HB3.out.mono BA.out.size)⟩
          have h := HO.out
          rw [HTK.out, HKN.out] at h
          exact IsInts.of_own (base := w1.heap.size) (by rw [List.length_map, hn.out]; exact h)
end Go.Proofs.Ytflicgngejnajaa
