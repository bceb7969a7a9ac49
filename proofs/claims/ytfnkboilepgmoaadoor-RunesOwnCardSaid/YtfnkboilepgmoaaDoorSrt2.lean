import Derived.Test.YtfnkboilepgmoaaDoorSrt1
/- slices.Sort at []rune: insertion, reversal, sifting. -/
namespace Go.Proofs.YtfnkboilepgmoaaDoor.Srt
open Go Go.Sort Go.RowKit
set_option linter.unusedVariables false
set_option linter.unusedSimpArgs false
set_option maxHeartbeats 8000000 in
set_option maxRecDepth 100000 in
theorem insertion (blk cap : Nat) (d : Array Int) (a b : Nat) (w : World) (hH : Holds enc w blk 0 d) (hB : blk < w.heap.size) (hb : b ≤ d.size) (hsz : d.size < 4611686018427387904) (ha : a ≤ d.size) :
    Calls Tryd.prog 84 #[.slice (some ⟨blk, 0, none⟩) d.size cap, .int .i64 a, .int .i64 b] w fun e w' => e = .returned (.tuple #[]) ∧ At w blk (insertionSort lt d a b) w' := by
  have HA := Aside0.mk (At.start hH)
  have e1 : wrap64 ((a : Int) + 1) = ((a + 1 : Nat) : Int) := by unfold wrap64; omega
  go_enter Tryd.func84, Tryd.ntmps84
  go_wp2
  go_loopw [6] (fun s wr => ∃ (i : Nat) (dk : Array Int), s = .int .i64 i ∧ a + 1 ≤ i ∧ i ≤ d.size + 1 ∧ dk.size = d.size ∧ Aside0 (At w blk dk wr) ∧ Aside0 (insOuter lt a b i dk = insertionSort lt d a b)) (fun s _ => b - (intOf s).toNat)
  case atStart => exact ⟨a + 1, d, by first | rfl | (rw [e1]), Nat.le_refl _, by omega, rfl, HA, ⟨rfl⟩⟩
  case round =>
    clear HA
    obtain ⟨i, dk, rfl, hi, hi2, hds, HA, HE⟩ := hrel
    by_cases c : i < b
    · have d1 : decide ((i : Int) < (b : Int)) = true := decide_eq_true (by omega)
      go_wp2
      go_loopw [7] (fun s wr2 => ∃ (j : Nat) (dj : Array Int), s = .int .i64 j ∧ j ≤ i ∧ dj.size = d.size ∧ Aside0 (At w blk dj wr2) ∧ Aside0 (insInner lt a j dj = insInner lt a i dk)) (fun s _ => (intOf s).toNat)
      case atStart => exact ⟨i, dk, rfl, Nat.le_refl _, hds, HA, ⟨rfl⟩⟩
      case round =>
        clear HA
        obtain ⟨j, dj, rfl, hj, hdj, HA, HI⟩ := hrel
        by_cases cj : a < j
        · have d2 : decide ((a : Int) < (j : Int)) = true := decide_eq_true (by omega)
          obtain ⟨m, hm⟩ : ∃ m, m + 1 = j := ⟨j - 1, by omega⟩
          have hh := HA.out.holds hB hH hdj
          obtain ⟨ci, fi⟩ := at_cell hh (i := j) (by omega)
          obtain ⟨cj1, fj⟩ := at_cell hh (i := m) (by omega)
          have e2 : (j : Int) - 1 = (m : Int) := by omega
          have z0 := eq_true (show (0 : Int) ≤ (m : Int) by omega)
          have z1 := eq_true (show (0 : Int) ≤ (j : Int) by omega)
          have z2 := eq_true (show (j : Int) < (d.size : Int) by omega)
          have z3 := eq_true (show (m : Int) < (d.size : Int) by omega)
          obtain ⟨L, hL⟩ : ∃ L, lt dj[j]! dj[m]! = L := ⟨_, rfl⟩
          obtain ⟨X, hX⟩ : ∃ X, dj[j]! = X := ⟨_, rfl⟩
          obtain ⟨Y, hY⟩ : ∃ Y, dj[m]! = Y := ⟨_, rfl⟩
          rw [hX, hY] at hL
          rw [hX] at ci
          rw [hY] at cj1
          clear hh
          replace hL := Aside0.mk hL
          replace hX := Aside0.mk hX
          replace hY := Aside0.mk hY
          go_wp2
          go_quiet ((go_at_call 90; refine Calls.quiet_of (less _ _ L hL.out _)))
          have HA2 := Aside0.mk (HA.out.drewN nq)
          clear HA ci cj1 fi fj
          generalize wr.drewN nq = ws at HA2 ⊢
          cases L
          · go_wp2
            go_roundw
            case rel =>
              refine ⟨i + 1, dj, by simp, by omega, by omega, hdj, HA2, ⟨?_⟩⟩
              have h1 := HE.out
              rw [insOuter, if_pos c, ← HI.out, ← hm, insInner, hm, hX.out, hY.out, hL.out] at h1
              simpa using h1
            case measure => simp [intOf]; omega
          · have hh := HA2.out.holds hB hH hdj
            obtain ⟨ci, fi⟩ := at_cell hh (i := j) (by omega)
            obtain ⟨cj1, fj⟩ := at_cell hh (i := m) (by omega)
            rw [hX.out] at ci
            rw [hY.out] at cj1
            clear hh
            go_wp2_with fail
            go_region
            go_wp2
            go_roundw
            case rel =>
              refine ⟨m, swp dj j m, rfl, by omega, by rw [size_swp]; exact hdj, ⟨(HA2.out.swap hB (i := j) (j := m) (by omega) (by omega) (by rw [hY.out]) (by rw [hX.out])).drew⟩, ⟨?_⟩⟩
              have h1 := HI.out
              rw [← hm, insInner, hm, hX.out, hY.out, hL.out] at h1
              simpa [show a < j from cj] using h1
            case measure => simp [intOf]; omega
        · have d2 : decide ((a : Int) < (j : Int)) = false := decide_eq_false (by omega)
          go_wp2
          go_quiet (fail)
          have HA2 := Aside0.mk (HA.out.drewN nq)
          clear HA
          generalize wr.drewN nq = ws at HA2 ⊢
          go_wp2
          go_roundw
          case rel =>
            refine ⟨i + 1, dj, by simp, by omega, by omega, hdj, HA2, ⟨?_⟩⟩
            have h1 := HE.out
            have h2 : insInner lt a j dj = dj := by
              cases j with
              | zero => rw [insInner]
              | succ j => rw [insInner]; simp [show ¬ a < j + 1 by omega]
            rw [insOuter, if_pos c, ← HI.out, h2] at h1
            exact h1
          case measure => simp [intOf]; omega
    · have d1 : decide ((i : Int) < (b : Int)) = false := decide_eq_false (by omega)
      go_wp2
      go_end0
      refine ⟨rfl, ?_⟩
      have := HE.out
      rw [insOuter, if_neg c] at this
      rw [← this]
      exact HA.out
theorem swp_in {a b : Nat} {d : Array Int} {i j : Nat} (hai : a ≤ i) (hib : i < b) (haj : a ≤ j) (hjb : j < b) (hb : b ≤ d.size) : PermIn a b d (swp d i j) := swp_permIn d a b i j hai hib haj hjb hb
set_option maxHeartbeats 8000000 in
set_option maxRecDepth 100000 in
/-- The reversal exchanges within the range. -/
theorem reversal (blk cap : Nat) (d : Array Int) (a b : Nat) (w : World) (hH : Holds enc w blk 0 d) (hB : blk < w.heap.size) (hab : a ≤ b) (hb : b ≤ d.size) (hsz : d.size < 4611686018427387904) :
    Calls Tryd.prog 88 #[.slice (some ⟨blk, 0, none⟩) d.size cap, .int .i64 a, .int .i64 b] w fun e w' => e = .returned (.tuple #[]) ∧ ∃ d', PermIn a b d d' ∧ At w blk d' w' := by
  have HA := Aside0.mk (At.start hH)
  go_enter Tryd.func88, Tryd.ntmps88
  go_wp2
  go_loopw [6, 7] (fun s t wr => ∃ (i : Nat) (j : Int) (dk : Array Int), s = .int .i64 i ∧ t = .int .i64 j ∧ a ≤ i ∧ i ≤ d.size ∧ j < (b : Int) ∧ -1 ≤ j ∧ dk.size = d.size ∧ Aside0 (At w blk dk wr) ∧ Aside0 (PermIn a b d dk)) (fun s _ _ => d.size - (intOf s).toNat)
  case atStart => exact ⟨a, (b : Int) - 1, d, rfl, rfl, Nat.le_refl _, by omega, by omega, by omega, rfl, HA, ⟨permIn_refl _ _ _⟩⟩
  case round =>
    clear HA
    obtain ⟨i, j, dk, rfl, rfl, hi, hi2, hj, hj2, hds, HA, HP⟩ := hrel
    by_cases c : (i : Int) < j
    · obtain ⟨m, rfl⟩ : ∃ m : Nat, j = m := ⟨j.toNat, by omega⟩
      have d1 : decide ((i : Int) < (m : Int)) = true := decide_eq_true c
      have hh := HA.out.holds hB hH hds
      obtain ⟨ci, fi⟩ := at_cell hh (i := i) (by omega)
      obtain ⟨cj, fj⟩ := at_cell hh (i := m) (by omega)
      obtain ⟨X, hX⟩ : ∃ X, dk[i]! = X := ⟨_, rfl⟩
      obtain ⟨Y, hY⟩ : ∃ Y, dk[m]! = Y := ⟨_, rfl⟩
      rw [hX] at ci
      rw [hY] at cj
      clear hh
      replace hX := Aside0.mk hX
      replace hY := Aside0.mk hY
      have z0 := eq_true (show (0 : Int) ≤ (m : Int) by omega)
      have z1 := eq_true (show (0 : Int) ≤ (i : Int) by omega)
      have z2 := eq_true (show (i : Int) < (d.size : Int) by omega)
      have z3 := eq_true (show (m : Int) < (d.size : Int) by omega)
      go_wp2_with fail
      go_region
      go_wp2
      go_roundw
      case rel => exact ⟨i + 1, (m : Int) - 1, swp dk i m, by simp, rfl, by omega, by omega, by omega, by omega, by rw [size_swp]; exact hds, ⟨(HA.out.swap hB (i := i) (j := m) (by omega) (by omega) (by rw [hY.out]) (by rw [hX.out])).drew⟩, ⟨permIn_trans _ _ _ _ _ HP.out (swp_in hi (by omega) (by omega) (by omega) (by omega))⟩⟩
      case measure => simp [intOf]; omega
    · have d1 : decide ((i : Int) < j) = false := decide_eq_false c
      go_wp2
      go_end0
      exact ⟨rfl, dk, HP.out, HA.out⟩
end Go.Proofs.YtfnkboilepgmoaaDoor.Srt
