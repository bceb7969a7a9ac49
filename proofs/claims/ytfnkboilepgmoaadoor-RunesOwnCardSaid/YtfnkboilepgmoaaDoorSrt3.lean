import Derived.Test.YtfnkboilepgmoaaDoorSrt1
/- slices.Sort at []rune: the heap. -/
namespace Go.Proofs.YtfnkboilepgmoaaDoor.Srt
open Go Go.Sort Go.RowKit
set_option linter.unusedVariables false
set_option linter.unusedSimpArgs false
def kid (hi first root : Nat) (d : Array Int) : Nat := if 2 * root + 1 + 1 < hi && lt d[first + (2 * root + 1)]! d[first + (2 * root + 1) + 1]! then 2 * root + 2 else 2 * root + 1
theorem kid_lt {hi first root : Nat} {d : Array Int} (h : 2 * root + 1 < hi) : kid hi first root d < hi ∧ root < kid hi first root d := by
  unfold kid
  split
  · rename_i c
    rw [Bool.and_eq_true, decide_eq_true_eq] at c
    omega
  · omega
theorem sift_eq {hi first root : Nat} {d : Array Int} (h : 2 * root + 1 < hi) : siftDown lt hi first root d = if (!lt d[first + root]! d[first + kid hi first root d]!) = true then d else siftDown lt hi first (kid hi first root d) (swp d (first + root) (first + kid hi first root d)) := by
  rw [siftDown, dif_neg (by omega)]
  unfold kid
  by_cases c : (decide (2 * root + 1 + 1 < hi) && lt d[first + (2 * root + 1)]! d[first + (2 * root + 1) + 1]!) = true
  · have c2 := c
    rw [Bool.and_eq_true, decide_eq_true_eq] at c2
    rw [if_pos c, if_pos c, dif_pos (by omega)]
  · rw [if_neg c, if_neg c]
set_option maxHeartbeats 8000000 in
set_option maxRecDepth 100000 in
theorem sift (blk cap : Nat) (d : Array Int) (lo hi first : Nat) (w : World) (hH : Holds enc w blk 0 d) (hB : blk < w.heap.size) (hlo : lo ≤ d.size) (hf : first + hi ≤ d.size) (hsz : d.size < 2305843009213693952) :
    Calls Tryd.prog 106 #[.slice (some ⟨blk, 0, none⟩) d.size cap, .int .i64 lo, .int .i64 hi, .int .i64 first] w fun e w' => e = .returned (.tuple #[]) ∧ At w blk (siftDown lt hi first lo d) w' := by
  have HA := Aside0.mk (At.start hH)
  go_enter Tryd.func106, Tryd.ntmps106
  go_wp2
  go_loopw [8] (fun s wr => ∃ (r : Nat) (dk : Array Int), s = .int .i64 r ∧ r ≤ d.size ∧ dk.size = d.size ∧ Aside0 (At w blk dk wr) ∧ Aside0 (siftDown lt hi first r dk = siftDown lt hi first lo d)) (fun s _ => d.size - (intOf s).toNat)
  case atStart => exact ⟨lo, d, rfl, hlo, rfl, HA, ⟨rfl⟩⟩
  case round =>
    clear HA
    obtain ⟨r, dk, rfl, hr, hds, HA, HE⟩ := hrel
    by_cases c1 : 2 * r + 1 < hi
    · have d1 : decide ((hi : Int) ≤ 2 * (r : Int) + 1) = false := decide_eq_false (by omega)
      go_upto_region 3 with (fail)
      (try simp only [Act.put, List.setIfInBounds_toArray, List.set_cons_zero, List.set_cons_succ])
      go_cut [36] (fun s wc => ∃ (B : Bool), s = .bool B ∧ Aside0 (kid hi first r dk = if B = true then 2 * r + 2 else 2 * r + 1) ∧ Aside0 (At w blk dk wc))
      case first =>
        by_cases c2 : 2 * r + 1 + 1 < hi
        · obtain ⟨k3, hk3⟩ : ∃ k, 2 * r + 2 = k := ⟨_, rfl⟩
          have W3 : IntKind.i64.wrap (2 * (r : Int) + 1 + 1) = (k3 : Int) := wi (by omega) (by omega) (by omega)
          have d2 : decide (k3 < hi) = true := decide_eq_true (by omega)
          obtain ⟨k1, hk1⟩ : ∃ k, first + (2 * r + 1) = k := ⟨_, rfl⟩
          obtain ⟨k2, hk2⟩ : ∃ k, k1 + 1 = k := ⟨_, rfl⟩
          have E1 : IntKind.i64.wrap ((first : Int) + (2 * (r : Int) + 1)) = (k1 : Int) := wi (by omega) (by omega) (by omega)
          have E2 : IntKind.i64.wrap ((k1 : Int) + 1) = (k2 : Int) := wi (by omega) (by omega) (by omega)
          have hh := HA.out.holds hB hH hds
          obtain ⟨ci, fi⟩ := at_cell hh (i := k1) (by omega)
          obtain ⟨cj, fj⟩ := at_cell hh (i := k2) (by omega)
          clear hh
          have z0 := eq_true (show (0 : Int) ≤ (k1 : Int) by omega)
          have z1 := eq_true (show (0 : Int) ≤ (k2 : Int) by omega)
          have z2 := eq_true (show (k1 : Int) < (d.size : Int) by omega)
          have z3 := eq_true (show (k2 : Int) < (d.size : Int) by omega)
          obtain ⟨X, hX⟩ : ∃ X, dk[k1]! = X := ⟨_, rfl⟩
          obtain ⟨Y, hY⟩ : ∃ Y, dk[k2]! = Y := ⟨_, rfl⟩
          rw [hX] at ci
          rw [hY] at cj
          obtain ⟨L, hL⟩ : ∃ L, lt X Y = L := ⟨_, rfl⟩
          have hK : kid hi first r dk = if L = true then 2 * r + 2 else 2 * r + 1 := by
            unfold kid
            rw [hk1, hk2, hX, hY, hL, decide_eq_true c2, Bool.true_and]
          replace hL := Aside0.mk hL
          replace hK := Aside0.mk hK
          clear hX hY
          go_wp2_with fail
          go_quiet ((go_at_call 90; refine Calls.quiet_of (less _ _ L hL.out _)))
          have HA2 := Aside0.mk (HA.out.drewN nq)
          clear HA ci cj fi fj
          generalize wr.drewN nq = ws at HA2 ⊢
          go_wp2
          go_meet
          case rel => exact ⟨L, rfl, hK, HA2⟩
        · obtain ⟨k3, hk3⟩ : ∃ k, 2 * r + 2 = k := ⟨_, rfl⟩
          have W3 : IntKind.i64.wrap (2 * (r : Int) + 1 + 1) = (k3 : Int) := wi (by omega) (by omega) (by omega)
          have d2 : decide (k3 < hi) = false := decide_eq_false (by omega)
          have hK : kid hi first r dk = if false = true then 2 * r + 2 else 2 * r + 1 := by unfold kid; rw [decide_eq_false c2, Bool.false_and]
          replace hK := Aside0.mk hK
          go_quiet (fail)
          have HA2 := Aside0.mk (HA.out.drewN nq)
          clear HA
          generalize wr.drewN nq = ws at HA2 ⊢
          go_wp2
          go_meet
          case rel => exact ⟨false, rfl, hK, HA2⟩
      case rest =>
        clear HA
        obtain ⟨B, rfl, HK0, HA⟩ := hcut
        go_upto_if 36 with (fail)
        go_cut [9] (fun s wx => ∃ (c : Nat), s = .int .i64 c ∧ Aside0 (c = kid hi first r dk) ∧ wc = wx)
        case first =>
          have W3 : IntKind.i64.wrap (2 * (r : Int) + 1 + 1) = ((2 * r + 2 : Nat) : Int) := wi (by omega) (by omega) (by omega)
          cases B
          · go_wp2
            go_meet
            case rel => exact ⟨2 * r + 1, by simp, ⟨by rw [HK0.out]; rfl⟩, rfl⟩
          · go_wp2
            go_meet
            case rel => exact ⟨2 * r + 2, by first | rfl | (simp <;> omega), ⟨by rw [HK0.out]; rfl⟩, rfl⟩
        clear HK0
        obtain ⟨c, rfl, HK, rfl⟩ := hcut
        have hkid := kid_lt (first := first) (d := dk) c1
        rw [← HK.out] at hkid
        obtain ⟨k1, hk1⟩ : ∃ k, first + r = k := ⟨_, rfl⟩
        obtain ⟨k2, hk2⟩ : ∃ k, first + c = k := ⟨_, rfl⟩
        have E1 : IntKind.i64.wrap ((first : Int) + (r : Int)) = (k1 : Int) := wi (by omega) (by omega) (by omega)
        have E2 : IntKind.i64.wrap ((first : Int) + (c : Int)) = (k2 : Int) := wi (by omega) (by omega) (by omega)
        have hh := HA.out.holds hB hH hds
        obtain ⟨ci, fi⟩ := at_cell hh (i := k1) (by omega)
        obtain ⟨cj, fj⟩ := at_cell hh (i := k2) (by omega)
        clear hh
        have z0 := eq_true (show (0 : Int) ≤ (k1 : Int) by omega)
        have z1 := eq_true (show (0 : Int) ≤ (k2 : Int) by omega)
        have z2 := eq_true (show (k1 : Int) < (d.size : Int) by omega)
        have z3 := eq_true (show (k2 : Int) < (d.size : Int) by omega)
        obtain ⟨X, hX⟩ : ∃ X, dk[k1]! = X := ⟨_, rfl⟩
        obtain ⟨Y, hY⟩ : ∃ Y, dk[k2]! = Y := ⟨_, rfl⟩
        rw [hX] at ci
        rw [hY] at cj
        obtain ⟨L, hL⟩ : ∃ L, lt X Y = L := ⟨_, rfl⟩
        have hS := HE.out
        rw [sift_eq c1, ← HK.out, hk1, hk2, hX, hY, hL] at hS
        replace hS := Aside0.mk hS
        replace hL := Aside0.mk hL
        replace hX := Aside0.mk hX
        replace hY := Aside0.mk hY
        go_wp2
        go_quiet ((go_at_call 90; refine Calls.quiet_of (less _ _ L hL.out _)))
        have HA2 := Aside0.mk (HA.out.drewN nq)
        clear HA ci cj fi fj
        generalize wc.drewN nq = ws at HA2 ⊢
        cases L
        · go_wp2
          refine bodyPost_ret (results_none rfl _ _ _) rfl ?_
          refine ⟨rfl, ?_⟩
          have := hS.out
          simp at this
          rw [← this]
          exact HA2.out
        · have hh := HA2.out.holds hB hH hds
          obtain ⟨ci, fi⟩ := at_cell hh (i := k1) (by omega)
          obtain ⟨cj, fj⟩ := at_cell hh (i := k2) (by omega)
          rw [hX.out] at ci
          rw [hY.out] at cj
          clear hh
          go_wp2_with fail
          go_region
          go_wp2
          go_roundw
          case rel => exact ⟨c, swp dk k1 k2, by simp, by omega, by rw [size_swp]; exact hds, ⟨(HA2.out.swap hB (i := k1) (j := k2) (by omega) (by omega) (by rw [hY.out]) (by rw [hX.out])).drew⟩, ⟨by have := hS.out; simpa using this⟩⟩
          case measure => simp [intOf] <;> omega
    · have d1 : decide ((hi : Int) ≤ 2 * (r : Int) + 1) = true := decide_eq_true (by omega)
      go_wp2
      go_end0
      refine ⟨rfl, ?_⟩
      have := HE.out
      rw [siftDown, dif_pos (by omega)] at this
      rw [← this]
      exact HA.out
theorem sift_size (hi first : Nat) : ∀ (n root : Nat) (d : Array Int), hi - root ≤ n → (siftDown lt hi first root d).size = d.size
  | n, root, d, hn => by
    by_cases c : 2 * root + 1 < hi
    · rw [sift_eq c]
      have hk := kid_lt (first := first) (d := d) c
      split
      · rfl
      · cases n with
        | zero => omega
        | succ n => rw [sift_size hi first n _ _ (by omega), size_swp]
    · rw [siftDown, dif_pos (by omega)]
theorem build_size (hi first : Nat) : ∀ (k : Nat) (d : Array Int), (heapBuild lt hi first k d).size = d.size
  | 0, d => rfl
  | k + 1, d => by rw [heapBuild, build_size hi first k, sift_size hi first _ _ _ (Nat.le_refl _)]
set_option maxHeartbeats 8000000 in
set_option maxRecDepth 100000 in
theorem heap (blk cap : Nat) (d : Array Int) (a b : Nat) (w : World) (hH : Holds enc w blk 0 d) (hB : blk < w.heap.size) (hab : a ≤ b) (hb : b ≤ d.size) (hsz : d.size < 2305843009213693952) :
    Calls Tryd.prog 85 #[.slice (some ⟨blk, 0, none⟩) d.size cap, .int .i64 a, .int .i64 b] w fun e w' => e = .returned (.tuple #[]) ∧ At w blk (heapSort lt d a b) w' := by
  have HA := Aside0.mk (At.start hH)
  obtain ⟨h, hh⟩ : ∃ h, b - a = h := ⟨_, rfl⟩
  have E0 : IntKind.i64.wrap ((b : Int) - (a : Int)) = (h : Int) := wi (by omega) (by omega) (by omega)
  have E1 : ((h : Int) - 1).tdiv 2 = (((h - 1) / 2 + 1 : Nat) : Int) - 1 := by
    rcases Nat.eq_zero_or_pos h with rfl | hp
    · rfl
    · rw [show (h : Int) - 1 = ((h - 1 : Nat) : Int) by omega, Int.tdiv_eq_ediv_of_nonneg (by omega)]
      omega
  have E1 := Aside0.mk E1
  go_enter Tryd.func85, Tryd.ntmps85
  go_wp2
  go_loopw [9] (fun s wr => ∃ (z : Int) (k : Nat) (dk : Array Int), s = .int .i64 z ∧ z = (k : Int) - 1 ∧ k ≤ d.size + 1 ∧ dk.size = d.size ∧ Aside0 (At w blk dk wr) ∧ Aside0 (heapBuild lt h a k dk = heapBuild lt h a ((h - 1) / 2 + 1) d)) (fun s _ => (intOf s + 1).toNat)
  case atStart =>
    refine ⟨_, (h - 1) / 2 + 1, d, rfl, ?_, ?_, rfl, HA, ⟨rfl⟩⟩
    · first | exact E1.out | omega
    · omega
  case round =>
    clear HA
    obtain ⟨z, k, dk, rfl, hz, hk, hds, HA, HE⟩ := hrel
    rcases k with _ | k
    · obtain rfl : z = -1 := by omega
      clear hz
      have h1 : heapSort lt d a b = heapPop lt a h dk := by
        have := HE.out
        rw [heapBuild] at this
        rw [heapSort, hh, this]
      replace h1 := Aside0.mk h1
      clear HE
      go_wp2
      go_loopw [10] (fun s wr2 => ∃ (z : Int) (k : Nat) (dj : Array Int), s = .int .i64 z ∧ z = (k : Int) - 1 ∧ k ≤ h ∧ dj.size = d.size ∧ Aside0 (At w blk dj wr2) ∧ Aside0 (heapPop lt a k dj = heapPop lt a h dk)) (fun s _ => (intOf s + 1).toNat)
      case atStart => exact ⟨_, h, dk, rfl, by omega, Nat.le_refl _, hds, HA, ⟨rfl⟩⟩
      case round =>
        clear HA
        obtain ⟨z, k, dj, rfl, hz, hk, hdj, HA, HE⟩ := hrel
        rcases k with _ | k
        · obtain rfl : z = -1 := by omega
          clear hz
          go_wp2
          go_end0
          refine ⟨rfl, ?_⟩
          have := HE.out
          rw [heapPop] at this
          rw [h1.out, ← this]
          exact HA.out
        · obtain rfl : z = (k : Int) := by omega
          clear hz
          have d1 : decide ((0 : Int) ≤ (k : Int)) = true := decide_eq_true (by omega)
          obtain ⟨m, hm⟩ : ∃ m, a + k = m := ⟨_, rfl⟩
          have E2 : IntKind.i64.wrap ((a : Int) + (k : Int)) = (m : Int) := wi (by omega) (by omega) (by omega)
          have hh2 := HA.out.holds hB hH hdj
          obtain ⟨ci, fi⟩ := at_cell hh2 (i := a) (by omega)
          obtain ⟨cj, fj⟩ := at_cell hh2 (i := m) (by omega)
          clear hh2
          have z0 := eq_true (show (0 : Int) ≤ (a : Int) by omega)
          have z1 := eq_true (show (0 : Int) ≤ (m : Int) by omega)
          have z2 := eq_true (show (a : Int) < (d.size : Int) by omega)
          have z3 := eq_true (show (m : Int) < (d.size : Int) by omega)
          obtain ⟨X, hX⟩ : ∃ X, dj[a]! = X := ⟨_, rfl⟩
          obtain ⟨Y, hY⟩ : ∃ Y, dj[m]! = Y := ⟨_, rfl⟩
          rw [hX] at ci
          rw [hY] at cj
          replace hX := Aside0.mk hX
          replace hY := Aside0.mk hY
          have hm := Aside0.mk hm
          by_cases hne : m = a
          · subst hne
            obtain rfl : X = Y := by rw [← hX.out, ← hY.out]
            go_wp2_with fail
            go_region
            have HA2 := Aside0.mk ((HA.out.swap hB (i := m) (j := m) (by omega) (by omega) (x := .int .i32 X) (y := .int .i32 X) (by rw [hY.out]) (by rw [hX.out])).drew)
            clear HA ci cj fi fj
            generalize ((wr.setCell ⟨blk, m, none⟩ (.int .i32 X)).setCell ⟨blk, m, none⟩ (.int .i32 X)).drew = ws at HA2 ⊢
            have hsw : (swp dj m m).size = d.size := by rw [size_swp]; exact hdj
            have hh2 := HA2.out.holds hB hH hsw
            go_wp2_with (go_at_call 106; rw [← hsw]; refine (sift blk cap (swp dj m m) 0 k m ws hh2 (HA2.out.lt hB) (by omega) (by omega) (by omega)).mono ?_; rintro e W1 ⟨rfl, h2⟩)
            go_roundw
            case rel => exact ⟨_, k, siftDown lt k m 0 (swp dj m m), rfl, by simp, by omega, by rw [sift_size k m _ _ _ (Nat.le_refl _)]; exact hsw, ⟨HA2.out.trans h2 hB (by rw [sift_size k m _ _ _ (Nat.le_refl _)])⟩, ⟨by rw [← HE.out, heapPop, hm.out]⟩⟩
            case measure => simp [intOf] <;> omega
          · have hne2 : ¬ a = m := fun h => hne h.symm
            go_wp2_with fail
            go_region
            have HA2 := Aside0.mk ((HA.out.swap hB (i := a) (j := m) (by omega) (by omega) (x := .int .i32 Y) (y := .int .i32 X) (by rw [hY.out]) (by rw [hX.out])).drew)
            clear HA ci cj fi fj
            generalize ((wr.setCell ⟨blk, a, none⟩ (.int .i32 Y)).setCell ⟨blk, m, none⟩ (.int .i32 X)).drew = ws at HA2 ⊢
            have hsw : (swp dj a m).size = d.size := by rw [size_swp]; exact hdj
            have hh2 := HA2.out.holds hB hH hsw
            go_wp2_with (go_at_call 106; rw [← hsw]; refine (sift blk cap (swp dj a m) 0 k a ws hh2 (HA2.out.lt hB) (by omega) (by omega) (by omega)).mono ?_; rintro e W1 ⟨rfl, h2⟩)
            go_roundw
            case rel => exact ⟨_, k, siftDown lt k a 0 (swp dj a m), rfl, by simp, by omega, by rw [sift_size k a _ _ _ (Nat.le_refl _)]; exact hsw, ⟨HA2.out.trans h2 hB (by rw [sift_size k a _ _ _ (Nat.le_refl _)])⟩, ⟨by rw [← HE.out, heapPop, hm.out]⟩⟩
            case measure => simp [intOf] <;> omega
    · obtain rfl : z = (k : Int) := by omega
      clear hz
      have d1 : decide ((0 : Int) ≤ (k : Int)) = true := decide_eq_true (by omega)
      have hh2 := HA.out.holds hB hH hds
      go_wp2_with (go_at_call 106; rw [← hds]; refine (sift blk cap dk k h a wr hh2 (HA.out.lt hB) (by omega) (by omega) (by omega)).mono ?_; rintro e W1 ⟨rfl, h2⟩)
      go_roundw
      case rel => exact ⟨_, k, siftDown lt h a k dk, rfl, by simp, by omega, by rw [sift_size h a _ _ _ (Nat.le_refl _)]; exact hds, ⟨HA.out.trans h2 hB (by rw [sift_size h a _ _ _ (Nat.le_refl _)])⟩, ⟨by rw [← HE.out, heapBuild]⟩⟩
      case measure => simp [intOf] <;> omega
end Go.Proofs.YtfnkboilepgmoaaDoor.Srt
