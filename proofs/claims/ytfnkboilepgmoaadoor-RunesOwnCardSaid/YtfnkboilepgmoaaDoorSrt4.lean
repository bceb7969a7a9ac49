import Derived.Test.YtfnkboilepgmoaaDoorSrt1
/- slices.Sort at []rune: the partial insertion. -/
namespace Go.Proofs.YtfnkboilepgmoaaDoor.Srt
open Go Go.Sort Go.RowKit
set_option linter.unusedVariables false
set_option linter.unusedSimpArgs false
theorem scan_go {d : Array Int} {b i : Nat} (h : i < b) (hl : lt d[i]! d[i - 1]! = false) : scanSorted lt d b i = scanSorted lt d b (i + 1) := by rw [scanSorted, if_pos (by simp [h, hl])]
theorem scan_stop {d : Array Int} {b i : Nat} (h : ¬ i < b ∨ lt d[i]! d[i - 1]! = true) : scanSorted lt d b i = i := by rw [scanSorted, if_neg (by rcases h with h | h <;> simp [h])]
def mid1 (a i : Nat) (d : Array Int) : Array Int := if i - a ≥ 2 then shiftDown lt (i - 1) (swp d i (i - 1)) else swp d i (i - 1)
def mid2 (b i : Nat) (d : Array Int) : Array Int := if b - i ≥ 2 then shiftUp lt b (i + 1) d else d
theorem down_size : ∀ (j : Nat) (d : Array Int), (shiftDown lt j d).size = d.size
  | 0, d => rfl
  | j + 1, d => by
    rw [shiftDown]
    split
    · rfl
    · rw [down_size, size_swp]
theorem up_size (b : Nat) : ∀ (n j : Nat) (d : Array Int), b - j ≤ n → (shiftUp lt b j d).size = d.size
  | n, j, d, h => by
    rw [shiftUp]
    split
    · split
      · rfl
      · cases n with
        | zero => omega
        | succ n => rw [up_size b n _ _ (by omega), size_swp]
    · rfl
theorem mid1_size (a i : Nat) (d : Array Int) : (mid1 a i d).size = d.size := by
  unfold mid1
  split
  · rw [down_size, size_swp]
  · rw [size_swp]
theorem mid2_size (b i : Nat) (d : Array Int) : (mid2 b i d).size = d.size := by
  unfold mid2
  split
  · rw [up_size b _ _ _ (Nat.le_refl _)]
  · rfl
theorem part_eq {a b s i : Nat} {d : Array Int} (h : scanSorted lt d b i = i) : partialIns lt a b (s + 1) i d = if i = b then (d, true) else if b - a < 50 then (d, false) else partialIns lt a b s i (mid2 b i (mid1 a i d)) := by
  rw [partialIns]
  simp only [h]
  rfl
theorem part_scan {a b s i j : Nat} {d : Array Int} (h : scanSorted lt d b i = scanSorted lt d b j) (h2 : scanSorted lt d b j = j) : partialIns lt a b (s + 1) i d = partialIns lt a b (s + 1) j d := by
  rw [partialIns, partialIns]
  simp only [h, h2]
set_option maxHeartbeats 8000000 in
set_option maxRecDepth 100000 in
theorem partialS (blk cap : Nat) (d : Array Int) (a b : Nat) (w : World) (hH : Holds enc w blk 0 d) (hB : blk < w.heap.size) (hab : a < b) (hb : b ≤ d.size) (hsz : d.size < 2305843009213693952) :
    Calls Tryd.prog 89 #[.slice (some ⟨blk, 0, none⟩) d.size cap, .int .i64 a, .int .i64 b] w fun e w' => e = .returned (.bool (partialInsertionSort lt d a b).2) ∧ At w blk (partialInsertionSort lt d a b).1 w' := by
  have HA := Aside0.mk (At.start hH)
  obtain ⟨P, hP⟩ : ∃ P, partialInsertionSort lt d a b = P := ⟨_, rfl⟩
  rw [hP]
  have hP := Aside0.mk hP
  have W0 : IntKind.i64.wrap ((b : Int) - (a : Int)) = ((b - a : Nat) : Int) := wi (by omega) (by omega) (by omega)
  go_enter Tryd.func89, Tryd.ntmps89
  go_wp2
  go_loopw [7, 8] (fun x y wr => ∃ (i s : Nat) (dk : Array Int), x = .int .i64 i ∧ y = .int .i64 s ∧ s ≤ 5 ∧ a + 1 ≤ i ∧ i ≤ b ∧ dk.size = d.size ∧ Aside0 (At w blk dk wr) ∧ Aside0 (partialIns lt a b (5 - s) i dk = P)) (fun _ y _ => 5 - (intOf y).toNat)
  case atStart => exact ⟨a + 1, 0, d, by simp, rfl, by omega, by omega, by omega, rfl, HA, hP⟩
  case round =>
    clear HA
    obtain ⟨i, s, dk, rfl, rfl, hs, hi, hi2, hds, HA, HE⟩ := hrel
    by_cases c : s < 5
    · have d1 : decide ((s : Int) < 5) = true := decide_eq_true (by omega)
      obtain ⟨q0, hq⟩ : ∃ q, 5 - s = q + 1 := ⟨4 - s, by omega⟩
      have HE2 := HE.out
      rw [hq] at HE2
      replace HE := Aside0.mk HE2
      clear HE2
      replace hq := Aside0.mk hq
      go_upto_block 2 with (fail)
      go_cut [7] (fun x wc => ∃ (j : Nat), x = .int .i64 j ∧ a + 1 ≤ j ∧ j ≤ b ∧ Aside0 (At w blk dk wc) ∧ Aside0 (scanSorted lt dk b i = scanSorted lt dk b j) ∧ Aside0 (scanSorted lt dk b j = j))
      case first =>
        go_wp2
        go_loopw [7] (fun x wr2 => ∃ (j : Nat), x = .int .i64 j ∧ a + 1 ≤ j ∧ j ≤ b ∧ Aside0 (At w blk dk wr2) ∧ Aside0 (scanSorted lt dk b i = scanSorted lt dk b j)) (fun x _ => b - (intOf x).toNat)
        case atStart => exact ⟨i, rfl, hi, hi2, HA, ⟨rfl⟩⟩
        case round =>
          clear HA
          obtain ⟨j, rfl, hj, hj2, HA, HI⟩ := hrel
          by_cases cb : j < b
          · have d2 : decide (j < b) = true := decide_eq_true cb
            have d3 : decide ((j : Int) < (b : Int)) = true := decide_eq_true (by omega)
            obtain ⟨m, hm⟩ : ∃ m, m + 1 = j := ⟨j - 1, by omega⟩
            have e2 : (j : Int) - 1 = (m : Int) := by omega
            have hh := HA.out.holds hB hH hds
            obtain ⟨ci, fi⟩ := at_cell hh (i := j) (by omega)
            obtain ⟨cj, fj⟩ := at_cell hh (i := m) (by omega)
            clear hh
            obtain ⟨X, hX⟩ : ∃ X, dk[j]! = X := ⟨_, rfl⟩
            rw [hX] at ci
            obtain ⟨Y, hY⟩ : ∃ Y, dk[m]! = Y := ⟨_, rfl⟩
            rw [hY] at cj
            have z0_ := eq_true (show (0 : Int) ≤ (j : Int) by omega)
            have z1_ := eq_true (show (j : Int) < (d.size : Int) by omega)
            have z2_ := eq_true (show (0 : Int) ≤ (m : Int) by omega)
            have z3_ := eq_true (show (m : Int) < (d.size : Int) by omega)
            obtain ⟨L, hL⟩ : ∃ L, lt X Y = L := ⟨_, rfl⟩
            replace hL := Aside0.mk hL
            replace hX := Aside0.mk hX
            replace hY := Aside0.mk hY
            go_wp2
            go_quiet ((go_at_call 90; refine Calls.quiet_of (less _ _ L hL.out _)))
            have HA2 := Aside0.mk (HA.out.drewN nq)
            clear HA ci cj fi fj
            generalize wr.drewN nq = ws at HA2 ⊢
            cases L
            · go_wp2
              go_roundw
              case rel => exact ⟨j + 1, by simp, by omega, by omega, HA2, ⟨by rw [HI.out, scan_go cb (by rw [show j - 1 = m by omega, hX.out, hY.out, hL.out])]⟩⟩
              case measure => simp [intOf] <;> omega
            · go_wp2
              go_meet
              case rel => exact ⟨j, rfl, hj, hj2, HA2, HI, ⟨scan_stop (.inr (by rw [show j - 1 = m by omega, hX.out, hY.out, hL.out]))⟩⟩
          · have d2 : decide (j < b) = false := decide_eq_false cb
            have d3 : decide ((j : Int) < (b : Int)) = false := decide_eq_false (by omega)
            go_wp2
            go_quiet (fail)
            have HA2 := Aside0.mk (HA.out.drewN nq)
            clear HA
            generalize wr.drewN nq = ws at HA2 ⊢
            go_wp2
            go_meet
            case rel => exact ⟨j, rfl, hj, hj2, HA2, HI, ⟨scan_stop (.inl cb)⟩⟩
      case rest =>
        clear HA
        obtain ⟨j, rfl, hj, hj2, HA, HI, HJ⟩ := hcut
        have HP := HE.out
        rw [part_scan HI.out HJ.out, part_eq HJ.out] at HP
        replace HP := Aside0.mk HP
        clear HE HI HJ
        by_cases cb : j = b
        · subst cb
          go_wp2
          go_ret
          have := HP.out
          first | rw [if_pos rfl] at this | rw [if_pos trivial] at this
          exact ⟨by rw [← this]; rfl, by rw [← this]; exact HA.out⟩
        · have b1 : ((j : Int) == (b : Int)) = false := beq_eq_false_iff_ne.mpr (by omega)
          by_cases c5 : b - a < 50
          · have d2 : decide (((b - a : Nat) : Int) < 50) = true := decide_eq_true (by omega)
            go_wp2
            go_ret
            have := HP.out
            rw [if_neg cb, if_pos c5] at this
            exact ⟨by rw [← this]; rfl, by rw [← this]; exact HA.out⟩
          · have d2 : decide (((b - a : Nat) : Int) < 50) = false := decide_eq_false (by omega)
            have HP2 := HP.out
            rw [if_neg cb, if_neg c5] at HP2
            replace HP2 := Aside0.mk HP2
            clear HP
            obtain ⟨m, hm⟩ : ∃ m, m + 1 = j := ⟨j - 1, by omega⟩
            have e2 : (j : Int) - 1 = (m : Int) := by omega
            have hh := HA.out.holds hB hH hds
            obtain ⟨ci, fi⟩ := at_cell hh (i := j) (by omega)
            obtain ⟨cj, fj⟩ := at_cell hh (i := m) (by omega)
            clear hh
            obtain ⟨X, hX⟩ : ∃ X, dk[j]! = X := ⟨_, rfl⟩
            rw [hX] at ci
            obtain ⟨Y, hY⟩ : ∃ Y, dk[m]! = Y := ⟨_, rfl⟩
            rw [hY] at cj
            have z0_ := eq_true (show (0 : Int) ≤ (j : Int) by omega)
            have z1_ := eq_true (show (j : Int) < (d.size : Int) by omega)
            have z2_ := eq_true (show (0 : Int) ≤ (m : Int) by omega)
            have z3_ := eq_true (show (m : Int) < (d.size : Int) by omega)
            replace hX := Aside0.mk hX
            replace hY := Aside0.mk hY
            go_wp2_with fail
            go_region
            have HA2 := Aside0.mk ((HA.out.swap hB (i := j) (j := m) (by omega) (by omega) (x := .int .i32 Y) (y := .int .i32 X) (by rw [hY.out]) (by rw [hX.out])).drew)
            clear HA ci cj fi fj hX hY
            generalize ((wc.setCell ⟨blk, j, none⟩ (.int .i32 Y)).setCell ⟨blk, m, none⟩ (.int .i32 X)).drew = ws at HA2 ⊢
            obtain ⟨p, hp⟩ : ∃ p, j - a = p := ⟨_, rfl⟩
            have W1 : IntKind.i64.wrap ((j : Int) - (a : Int)) = (p : Int) := wi (by omega) (by omega) (by omega)
            obtain ⟨p2, hp2⟩ : ∃ p, b - j = p := ⟨_, rfl⟩
            have W2 : IntKind.i64.wrap ((b : Int) - (j : Int)) = (p2 : Int) := wi (by omega) (by omega) (by omega)
            have hm1 : j - 1 = m := by omega
            have hM : mid1 a j dk = if p ≥ 2 then shiftDown lt m (swp dk j m) else swp dk j m := by unfold mid1; rw [hm1, hp]
            replace hM := Aside0.mk hM
            replace hp := Aside0.mk hp
            replace hp2 := Aside0.mk hp2
            replace hm1 := Aside0.mk hm1
            replace hm := Aside0.mk hm
            have hsw : (swp dk j m).size = d.size := by rw [size_swp]; exact hds
            go_upto_if 61 with (fail)
            go_cut [] (fun wc => Aside0 (At w blk (mid1 a j dk) wc))
            case first =>
              by_cases cp : 2 ≤ p
              · have d3 : decide (2 ≤ p) = true := decide_eq_true cp
                have d4 : decide (2 ≤ (p : Int)) = true := decide_eq_true (by omega)
                rw [if_pos cp] at hM
                go_wp2
                go_loopw [9] (fun x wr2 => ∃ (q : Nat) (dj : Array Int), x = .int .i64 q ∧ q ≤ m ∧ dj.size = d.size ∧ Aside0 (At w blk dj wr2) ∧ Aside0 (shiftDown lt q dj = shiftDown lt m (swp dk j m))) (fun x _ => (intOf x).toNat)
                case atStart => exact ⟨m, _, by first | rfl | (simp <;> have := hm.out <;> omega), Nat.le_refl _, hsw, HA2, ⟨rfl⟩⟩
                case round =>
                  clear HA2
                  obtain ⟨q, dj, rfl, hq, hdj, HA, HI⟩ := hrel
                  rcases q with _ | q
                  · go_wp2
                    go_meet
                    case rel => exact ⟨by have h1 := HI.out; rw [shiftDown] at h1; rw [hM.out, ← h1]; exact HA.out⟩
                  · obtain ⟨q1, hq1⟩ : ∃ q1, q + 1 = q1 := ⟨_, rfl⟩
                    have d5 : decide (1 ≤ (q1 : Int)) = true := decide_eq_true (by omega)
                    have d6 : decide (1 ≤ q1) = true := decide_eq_true (by omega)
                    have e3 : (q1 : Int) - 1 = (q : Int) := by omega
                    have hmj := hm.out
                    have h1 := HI.out
                    rw [shiftDown] at h1
                    rw [hq1] at h1 hq ⊢
                    clear hq1
                    have hh := HA.out.holds hB hH hdj
                    obtain ⟨ci, fi⟩ := at_cell hh (i := q1) (by omega)
                    obtain ⟨cj, fj⟩ := at_cell hh (i := q) (by omega)
                    clear hh
                    obtain ⟨X, hX⟩ : ∃ X, dj[q1]! = X := ⟨_, rfl⟩
                    rw [hX] at ci
                    obtain ⟨Y, hY⟩ : ∃ Y, dj[q]! = Y := ⟨_, rfl⟩
                    rw [hY] at cj
                    have z0_ := eq_true (show (0 : Int) ≤ (q1 : Int) by omega)
                    have z1_ := eq_true (show (q1 : Int) < (d.size : Int) by omega)
                    have z2_ := eq_true (show (0 : Int) ≤ (q : Int) by omega)
                    have z3_ := eq_true (show (q : Int) < (d.size : Int) by omega)
                    obtain ⟨L, hL⟩ : ∃ L, lt X Y = L := ⟨_, rfl⟩
                    rw [hX, hY, hL] at h1
                    replace h1 := Aside0.mk h1
                    replace hL := Aside0.mk hL
                    replace hX := Aside0.mk hX
                    replace hY := Aside0.mk hY
                    clear HI hmj
                    go_wp2
                    go_quiet ((go_at_call 90; refine Calls.quiet_of (less _ _ L hL.out _)))
                    have HA2 := Aside0.mk (HA.out.drewN nq)
                    clear HA ci cj fi fj
                    generalize wr.drewN nq = ws at HA2 ⊢
                    cases L
                    · go_wp2
                      go_meet
                      case rel => exact ⟨by have h2 := h1.out; simp at h2; rw [hM.out, ← h2]; exact HA2.out⟩
                    · have hmj := hm.out
                      have hh := HA2.out.holds hB hH hdj
                      obtain ⟨ci, fi⟩ := at_cell hh (i := q1) (by omega)
                      obtain ⟨cj, fj⟩ := at_cell hh (i := q) (by omega)
                      clear hh
                      rw [hX.out] at ci
                      rw [hY.out] at cj
                      clear hmj
                      have hq1 : q < q1 := by omega
                      go_wp2_with fail
                      go_region
                      go_wp2
                      go_roundw
                      case rel => exact ⟨q, swp dj q1 q, by simp, by omega, by rw [size_swp]; exact hdj, ⟨(HA2.out.swap hB (i := q1) (j := q) (by omega) (by omega) (by rw [hY.out]) (by rw [hX.out])).drew⟩, ⟨by have h2 := h1.out; simpa using h2⟩⟩
                      case measure => simp [intOf] <;> omega
              · have d3 : decide (2 ≤ p) = false := decide_eq_false cp
                have d4 : decide (2 ≤ (p : Int)) = false := decide_eq_false (by omega)
                go_wp2
                go_meet
                case rel => exact ⟨by rw [hM.out, if_neg cp]; exact HA2.out⟩
            case rest =>
              clear HA2
              have HA2 := hcut
              clear hcut
              obtain ⟨d1, hd1⟩ : ∃ d1, mid1 a j dk = d1 := ⟨_, rfl⟩
              have hs1 : d1.size = d.size := by rw [← hd1, mid1_size]; exact hds
              rw [hd1] at HA2
              rw [hd1] at HP2
              clear hM hd1
              have hN : mid2 b j d1 = if p2 ≥ 2 then shiftUp lt b (j + 1) d1 else d1 := by unfold mid2; rw [hp2.out]
              replace hN := Aside0.mk hN
              by_cases cp : 2 ≤ p2
              · have d3 : decide (2 ≤ p2) = true := decide_eq_true cp
                have d4 : decide (2 ≤ (p2 : Int)) = true := decide_eq_true (by omega)
                rw [if_pos cp] at hN
                go_wp2
                go_loopw [10] (fun x wr2 => ∃ (q : Nat) (dj : Array Int), x = .int .i64 q ∧ j + 1 ≤ q ∧ q ≤ b ∧ dj.size = d.size ∧ Aside0 (At w blk dj wr2) ∧ Aside0 (shiftUp lt b q dj = shiftUp lt b (j + 1) d1)) (fun x _ => b - (intOf x).toNat)
                case atStart => exact ⟨j + 1, _, by simp, Nat.le_refl _, by have := hp2.out; omega, hs1, HA2, ⟨rfl⟩⟩
                case round =>
                  clear HA2
                  obtain ⟨q, dj, rfl, hqj, hq2, hdj, HA, HI⟩ := hrel
                  have h1 := HI.out
                  rw [shiftUp] at h1
                  by_cases cq : q < b
                  · have d5 : decide ((q : Int) < (b : Int)) = true := decide_eq_true (by omega)
                    have d6 : decide (q < b) = true := decide_eq_true cq
                    obtain ⟨m3, hm3⟩ : ∃ m, m + 1 = q := ⟨q - 1, by omega⟩
                    have e3 : (q : Int) - 1 = (m3 : Int) := by omega
                    rw [if_pos cq, show q - 1 = m3 by omega] at h1
                    have hh := HA.out.holds hB hH hdj
                    obtain ⟨ci, fi⟩ := at_cell hh (i := q) (by omega)
                    obtain ⟨cj, fj⟩ := at_cell hh (i := m3) (by omega)
                    clear hh
                    obtain ⟨X, hX⟩ : ∃ X, dj[q]! = X := ⟨_, rfl⟩
                    rw [hX] at ci
                    obtain ⟨Y, hY⟩ : ∃ Y, dj[m3]! = Y := ⟨_, rfl⟩
                    rw [hY] at cj
                    have y0_ := eq_true (show (0 : Int) ≤ (q : Int) by omega)
                    have y1_ := eq_true (show (q : Int) < (d.size : Int) by omega)
                    have y2_ := eq_true (show (0 : Int) ≤ (m3 : Int) by omega)
                    have y3_ := eq_true (show (m3 : Int) < (d.size : Int) by omega)
                    obtain ⟨L, hL⟩ : ∃ L, lt X Y = L := ⟨_, rfl⟩
                    rw [hX, hY, hL] at h1
                    replace h1 := Aside0.mk h1
                    replace hL := Aside0.mk hL
                    replace hX := Aside0.mk hX
                    replace hY := Aside0.mk hY
                    clear HI
                    go_wp2
                    go_quiet ((go_at_call 90; refine Calls.quiet_of (less _ _ L hL.out _)))
                    have HA2 := Aside0.mk (HA.out.drewN nq)
                    clear HA ci cj fi fj
                    generalize wr.drewN nq = ws at HA2 ⊢
                    cases L
                    · go_wp2
                      go_roundw
                      case rel => exact ⟨j, s + 1, mid2 b j d1, rfl, by simp, by omega, by omega, by omega, by rw [mid2_size]; exact hs1, ⟨by have h2 := h1.out; simp at h2; rw [hN.out, ← h2]; exact HA2.out⟩, ⟨by rw [← HP2.out, show 5 - (s + 1) = q0 by have := hq.out; omega]⟩⟩
                      case measure => simp [intOf] <;> omega
                    · have hq1 : m3 < q := by omega
                      have hh := HA2.out.holds hB hH hdj
                      obtain ⟨ci, fi⟩ := at_cell hh (i := q) (by omega)
                      obtain ⟨cj, fj⟩ := at_cell hh (i := m3) (by omega)
                      clear hh
                      rw [hX.out] at ci
                      rw [hY.out] at cj
                      go_wp2_with fail
                      go_region
                      go_wp2
                      go_roundw
                      case rel => exact ⟨q + 1, swp dj q m3, by simp, by omega, by omega, by rw [size_swp]; exact hdj, ⟨(HA2.out.swap hB (i := q) (j := m3) (by omega) (by omega) (by rw [hY.out]) (by rw [hX.out])).drew⟩, ⟨by have h2 := h1.out; simpa using h2⟩⟩
                      case measure => simp [intOf] <;> omega
                  · have d5 : decide ((q : Int) < (b : Int)) = false := decide_eq_false (by omega)
                    have d6 : decide (q < b) = false := decide_eq_false cq
                    rw [if_neg cq] at h1
                    replace h1 := Aside0.mk h1
                    clear HI
                    go_wp2
                    go_roundw
                    case rel => exact ⟨j, s + 1, mid2 b j d1, rfl, by simp, by omega, by omega, by omega, by rw [mid2_size]; exact hs1, ⟨by rw [hN.out, ← h1.out]; exact HA.out⟩, ⟨by rw [← HP2.out, show 5 - (s + 1) = q0 by have := hq.out; omega]⟩⟩
                    case measure => simp [intOf] <;> omega
              · have d3 : decide (2 ≤ p2) = false := decide_eq_false cp
                have d4 : decide (2 ≤ (p2 : Int)) = false := decide_eq_false (by omega)
                go_wp2
                go_roundw
                case rel => exact ⟨j, s + 1, mid2 b j d1, rfl, by simp, by omega, by omega, by omega, by rw [mid2_size]; exact hs1, ⟨by rw [hN.out, if_neg cp]; exact HA2.out⟩, ⟨by rw [← HP2.out, show 5 - (s + 1) = q0 by have := hq.out; omega]⟩⟩
                case measure => simp [intOf] <;> omega
    · have d1 : decide ((s : Int) < 5) = false := decide_eq_false (by omega)
      obtain rfl : s = 5 := by omega
      go_wp2
      go_ret
      have := HE.out
      rw [show 5 - 5 = 0 from rfl, partialIns] at this
      exact ⟨by rw [← this]; rfl, by rw [← this]; exact HA.out⟩
end Go.Proofs.YtfnkboilepgmoaaDoor.Srt
