import Derived.Test.YtfnkboilepgmoaaDoorSrt1
/- slices.Sort at []rune: the partitions. -/
namespace Go.Proofs.YtfnkboilepgmoaaDoor.Srt
open Go Go.Sort Go.RowKit
set_option linter.unusedVariables false
set_option linter.unusedSimpArgs false
theorem up_go {p : Int → Bool} {d : Array Int} {j i : Nat} (h : i ≤ j) (hp : p d[i]! = true) : scanUp p d j i = scanUp p d j (i + 1) := by rw [scanUp, if_pos (by simp [h, hp])]
theorem up_stop {p : Int → Bool} {d : Array Int} {j i : Nat} (h : ¬ i ≤ j ∨ p d[i]! = false) : scanUp p d j i = i := by rw [scanUp, if_neg (by rcases h with h | h <;> simp [h])]
theorem down_go {p : Int → Bool} {d : Array Int} {j i m : Nat} (hm : m + 1 = j) (h : i ≤ j) (hp : p d[j]! = true) : scanDown p d i j = scanDown p d i m := by
  subst hm
  rw [scanDown, if_pos (by simp [h, hp])]
theorem down_stop {p : Int → Bool} {d : Array Int} {j i : Nat} (h : ¬ i ≤ j ∨ p d[j]! = false) : scanDown p d i j = j := by
  cases j with
  | zero => rfl
  | succ j => rw [scanDown, if_neg (by rcases h with h | h <;> simp [h])]
set_option maxHeartbeats 8000000 in
set_option maxRecDepth 100000 in
theorem partEqual (blk cap : Nat) (d : Array Int) (a b p : Nat) (w : World) (hH : Holds enc w blk 0 d) (hB : blk < w.heap.size) (hap : a ≤ p) (hpb : p < b) (hb : b ≤ d.size) (hsz : d.size < 2305843009213693952) :
    Calls Tryd.prog 91 #[.slice (some ⟨blk, 0, none⟩) d.size cap, .int .i64 a, .int .i64 b, .int .i64 p] w fun e w' => e = .returned (.int .i64 (partitionEqual lt d a b p).1) ∧ At w blk (partitionEqual lt d a b p).2 w' := by
  have HA := Aside0.mk (At.start hH)
  obtain ⟨P, hP⟩ : ∃ P, partitionEqual lt d a b p = P := ⟨_, rfl⟩
  rw [hP]
  unfold partitionEqual at hP
  replace hP := Aside0.mk hP
  have hds0 : d.size = d.size := rfl
  go_enter Tryd.func91, Tryd.ntmps91
  go_upto_region 1 with (fail)
  go_cut [] (fun wc => Aside0 (At w blk (swp d a p) wc))
  case first =>
    by_cases heq : a = p
    · subst heq
      have hh := HA.out.holds hB hH hds0
      obtain ⟨ci, fi⟩ := at_cell hh (i := a) (by omega)
      clear hh
      obtain ⟨X, hX⟩ : ∃ X, d[a]! = X := ⟨_, rfl⟩
      rw [hX] at ci
      have v0_ := eq_true (show (0 : Int) ≤ (a : Int) by omega)
      have v1_ := eq_true (show (a : Int) < (d.size : Int) by omega)
      replace hX := Aside0.mk hX
      go_region
      all_goals go_wp2
      all_goals go_meet
      all_goals exact ⟨(HA.out.swap hB (i := a) (j := a) (by omega) (by omega) (by rw [hX.out]) (by rw [hX.out])).drew⟩
    · have heq2 : ¬ p = a := fun h => heq h.symm
      have hh := HA.out.holds hB hH hds0
      obtain ⟨ci, fi⟩ := at_cell hh (i := a) (by omega)
      obtain ⟨cj, fj⟩ := at_cell hh (i := p) (by omega)
      clear hh
      obtain ⟨X, hX⟩ : ∃ X, d[a]! = X := ⟨_, rfl⟩
      rw [hX] at ci
      obtain ⟨Y, hY⟩ : ∃ Y, d[p]! = Y := ⟨_, rfl⟩
      rw [hY] at cj
      have v0_ := eq_true (show (0 : Int) ≤ (a : Int) by omega)
      have v1_ := eq_true (show (a : Int) < (d.size : Int) by omega)
      have v2_ := eq_true (show (0 : Int) ≤ (p : Int) by omega)
      have v3_ := eq_true (show (p : Int) < (d.size : Int) by omega)
      replace hX := Aside0.mk hX
      replace hY := Aside0.mk hY
      go_region
      go_wp2
      go_meet
      case rel => exact ⟨(HA.out.swap hB (i := a) (j := p) (by omega) (by omega) (by rw [hY.out]) (by rw [hX.out])).drew⟩
  case rest =>
    clear HA
    have HA := hcut
    clear hcut
    go_wp2
    obtain ⟨b1, hb1⟩ : ∃ b1, b1 + 1 = b := ⟨b - 1, by omega⟩
    have eb : (b : Int) - 1 = (b1 : Int) := by omega
    go_loopw [9, 10] (fun x y wr => ∃ (i j : Nat) (dk : Array Int), x = .int .i64 i ∧ y = .int .i64 j ∧ a + 1 ≤ i ∧ i ≤ j + 1 ∧ j < b ∧ dk.size = d.size ∧ Aside0 (At w blk dk wr) ∧ Aside0 (partEqLoop lt a i j dk = P)) (fun x y _ => (intOf y + 1 - intOf x).toNat)
    case atStart => exact ⟨a + 1, b1, swp d a p, by simp, by first | rfl | (simp <;> omega), Nat.le_refl _, by omega, by omega, by rw [size_swp], HA, ⟨by rw [← hP.out, show b - 1 = b1 by omega]⟩⟩
    case round =>
      clear HA eb
      obtain ⟨i, j, dk, rfl, rfl, hi, hij, hj, hds, HA, HE⟩ := hrel
      go_upto_block 2 with (fail)
      go_cut [9] (fun x wc => ∃ (i2 : Nat), x = .int .i64 i2 ∧ i ≤ i2 ∧ i2 ≤ j + 1 ∧ Aside0 (At w blk dk wc) ∧ Aside0 (scanUp (fun x => !lt dk[a]! x) dk j i = i2) ∧ Aside0 (¬ i2 ≤ j ∨ (fun x => !lt dk[a]! x) dk[i2]! = false))
      case first =>
        go_wp2
        go_loopw [9] (fun x wr2 => ∃ (i2 : Nat), x = .int .i64 i2 ∧ i ≤ i2 ∧ i2 ≤ j + 1 ∧ Aside0 (At w blk dk wr2) ∧ Aside0 (scanUp (fun x => !lt dk[a]! x) dk j i = scanUp (fun x => !lt dk[a]! x) dk j i2)) (fun x _ => j + 1 - (intOf x).toNat)
        case atStart => exact ⟨i, by first | rfl | (simp; done) | (simp <;> omega), Nat.le_refl _, by omega, HA, ⟨rfl⟩⟩
        case round =>
          clear HA
          obtain ⟨i2, rfl, hi2, hi3, HA, HI⟩ := hrel
          by_cases cb : i2 ≤ j
          · have d2 : decide (i2 ≤ j) = true := decide_eq_true cb
            have d3 : decide ((i2 : Int) ≤ (j : Int)) = true := decide_eq_true (by omega)
            have hh := HA.out.holds hB hH hds
            obtain ⟨ci, fi⟩ := at_cell hh (i := a) (by omega)
            obtain ⟨cj, fj⟩ := at_cell hh (i := i2) (by omega)
            clear hh
            obtain ⟨X, hX⟩ : ∃ X, dk[a]! = X := ⟨_, rfl⟩
            rw [hX] at ci
            obtain ⟨Y, hY⟩ : ∃ Y, dk[i2]! = Y := ⟨_, rfl⟩
            rw [hY] at cj
            have v0_ := eq_true (show (0 : Int) ≤ (a : Int) by omega)
            have v1_ := eq_true (show (a : Int) < (d.size : Int) by omega)
            have v2_ := eq_true (show (0 : Int) ≤ (i2 : Int) by omega)
            have v3_ := eq_true (show (i2 : Int) < (d.size : Int) by omega)
            obtain ⟨L, hL⟩ : ∃ L, lt X Y = L := ⟨_, rfl⟩
            have hp : (fun x => !lt dk[a]! x) dk[i2]! = !L := by simp only [hX, hY, hL]
            replace hp := Aside0.mk hp
            replace hL := Aside0.mk hL
            replace hX := Aside0.mk hX
            replace hY := Aside0.mk hY
            go_wp2
            go_quiet ((go_at_call 90; refine Calls.quiet_of (less _ _ L hL.out _)))
            have HA2 := Aside0.mk (HA.out.drewN nq)
            clear HA ci cj fi fj
            generalize wr.drewN nq = ws at HA2 ⊢
            cases L
            · go_wp2
              go_roundw
              case rel => exact ⟨i2 + 1, by simp, by omega, by omega, HA2, ⟨by rw [HI.out, up_go (p := (fun x => !lt dk[a]! x)) cb hp.out]⟩⟩
              case measure => simp [intOf] <;> omega
            · go_wp2
              go_meet
              case rel => exact ⟨i2, rfl, hi2, hi3, HA2, ⟨by rw [HI.out, up_stop (p := (fun x => !lt dk[a]! x)) (.inr hp.out)]⟩, ⟨.inr hp.out⟩⟩
          · have d2 : decide (i2 ≤ j) = false := decide_eq_false cb
            have d3 : decide ((i2 : Int) ≤ (j : Int)) = false := decide_eq_false (by omega)
            go_wp2
            go_quiet (fail)
            have HA2 := Aside0.mk (HA.out.drewN nq)
            clear HA
            generalize wr.drewN nq = ws at HA2 ⊢
            go_wp2
            go_meet
            case rel => exact ⟨i2, rfl, hi2, hi3, HA2, ⟨by rw [HI.out, up_stop (p := (fun x => !lt dk[a]! x)) (.inl cb)]⟩, ⟨.inl cb⟩⟩
      case rest =>
        clear HA
        obtain ⟨i2, rfl, hi2, hi3, HA, HU, HU2⟩ := hcut
        go_upto_block 4 with (fail)
        go_cut [10] (fun x wc => ∃ (j2 : Nat), x = .int .i64 j2 ∧ j2 ≤ j ∧ i2 ≤ j2 + 1 ∧ Aside0 (At w blk dk wc) ∧ Aside0 (scanDown (fun x => lt dk[a]! x) dk i2 j = j2) ∧ Aside0 (¬ i2 ≤ j2 ∨ (fun x => lt dk[a]! x) dk[j2]! = false))
        case first =>
          go_wp2
          go_loopw [10] (fun x wr2 => ∃ (j2 : Nat), x = .int .i64 j2 ∧ j2 ≤ j ∧ i2 ≤ j2 + 1 ∧ Aside0 (At w blk dk wr2) ∧ Aside0 (scanDown (fun x => lt dk[a]! x) dk i2 j = scanDown (fun x => lt dk[a]! x) dk i2 j2)) (fun x _ => (intOf x).toNat)
          case atStart => exact ⟨j, by first | rfl | (simp; done) | (simp <;> omega), Nat.le_refl _, by omega, HA, ⟨rfl⟩⟩
          case round =>
            clear HA
            obtain ⟨j2, rfl, hj2, hj3, HA, HI⟩ := hrel
            by_cases cb : i2 ≤ j2
            · have d2 : decide (i2 ≤ j2) = true := decide_eq_true cb
              have d3 : decide ((i2 : Int) ≤ (j2 : Int)) = true := decide_eq_true (by omega)
              have hh := HA.out.holds hB hH hds
              obtain ⟨ci, fi⟩ := at_cell hh (i := a) (by omega)
              obtain ⟨cj, fj⟩ := at_cell hh (i := j2) (by omega)
              clear hh
              obtain ⟨X, hX⟩ : ∃ X, dk[a]! = X := ⟨_, rfl⟩
              rw [hX] at ci
              obtain ⟨Y, hY⟩ : ∃ Y, dk[j2]! = Y := ⟨_, rfl⟩
              rw [hY] at cj
              have v0_ := eq_true (show (0 : Int) ≤ (a : Int) by omega)
              have v1_ := eq_true (show (a : Int) < (d.size : Int) by omega)
              have v2_ := eq_true (show (0 : Int) ≤ (j2 : Int) by omega)
              have v3_ := eq_true (show (j2 : Int) < (d.size : Int) by omega)
              obtain ⟨L, hL⟩ : ∃ L, lt X Y = L := ⟨_, rfl⟩
              have hp : (fun x => lt dk[a]! x) dk[j2]! = L := by simp only [hX, hY, hL]
              obtain ⟨m, hm⟩ : ∃ m, m + 1 = j2 := ⟨j2 - 1, by omega⟩
              have e2 : (j2 : Int) - 1 = (m : Int) := by omega
              replace hp := Aside0.mk hp
              replace hL := Aside0.mk hL
              replace hX := Aside0.mk hX
              replace hY := Aside0.mk hY
              go_wp2
              go_quiet ((go_at_call 90; refine Calls.quiet_of (less _ _ L hL.out _)))
              have HA2 := Aside0.mk (HA.out.drewN nq)
              clear HA ci cj fi fj
              generalize wr.drewN nq = ws at HA2 ⊢
              cases L
              · go_wp2
                go_meet
                case rel => exact ⟨j2, rfl, hj2, hj3, HA2, ⟨by rw [HI.out, down_stop (p := (fun x => lt dk[a]! x)) (.inr hp.out)]⟩, ⟨.inr hp.out⟩⟩
              · go_wp2
                go_roundw
                case rel => exact ⟨m, rfl, by omega, by omega, HA2, ⟨by rw [HI.out, down_go (p := (fun x => lt dk[a]! x)) hm cb hp.out]⟩⟩
                case measure => simp [intOf] <;> omega
            · have d2 : decide (i2 ≤ j2) = false := decide_eq_false cb
              have d3 : decide ((i2 : Int) ≤ (j2 : Int)) = false := decide_eq_false (by omega)
              go_wp2
              go_quiet (fail)
              have HA2 := Aside0.mk (HA.out.drewN nq)
              clear HA
              generalize wr.drewN nq = ws at HA2 ⊢
              go_wp2
              go_meet
              case rel => exact ⟨j2, rfl, hj2, hj3, HA2, ⟨by rw [HI.out, down_stop (p := (fun x => lt dk[a]! x)) (.inl cb)]⟩, ⟨.inl cb⟩⟩
        case rest =>
          clear HA
          obtain ⟨j2, rfl, hj2, hj3, HA, HD, HD2⟩ := hcut
          have hE := HE.out
          rw [partEqLoop_eq, HU.out, HD.out] at hE
          by_cases cc : i2 > j2
          · have d2 : decide (j2 < i2) = true := decide_eq_true cc
            have d3 : decide ((j2 : Int) < (i2 : Int)) = true := decide_eq_true (by omega)
            rw [if_pos cc] at hE
            replace hE := Aside0.mk hE
            go_wp2
            go_ret
            exact ⟨by rw [← hE.out]; rfl, by rw [← hE.out]; exact HA.out⟩
          · have d2 : decide (j2 < i2) = false := decide_eq_false cc
            have d3 : decide ((j2 : Int) < (i2 : Int)) = false := decide_eq_false (by omega)
            rw [if_neg cc] at hE
            replace hE := Aside0.mk hE
            have hne : i2 ≠ j2 := by
              rintro rfl
              rcases HU2.out with h | h
              · omega
              · rcases HD2.out with h2 | h2
                · omega
                · simp only [h2] at h
                  exact absurd h (by decide)
            go_upto_region 8 with (fail)
            go_cut [] (fun wc => Aside0 (At w blk (swp dk i2 j2) wc))
            case first =>
              have heq : ¬ i2 = j2 := hne
              have heq2 : ¬ j2 = i2 := fun h => heq h.symm
              have hh := HA.out.holds hB hH hds
              obtain ⟨ci, fi⟩ := at_cell hh (i := i2) (by omega)
              obtain ⟨cj, fj⟩ := at_cell hh (i := j2) (by omega)
              clear hh
              obtain ⟨X, hX⟩ : ∃ X, dk[i2]! = X := ⟨_, rfl⟩
              rw [hX] at ci
              obtain ⟨Y, hY⟩ : ∃ Y, dk[j2]! = Y := ⟨_, rfl⟩
              rw [hY] at cj
              have v0_ := eq_true (show (0 : Int) ≤ (i2 : Int) by omega)
              have v1_ := eq_true (show (i2 : Int) < (d.size : Int) by omega)
              have v2_ := eq_true (show (0 : Int) ≤ (j2 : Int) by omega)
              have v3_ := eq_true (show (j2 : Int) < (d.size : Int) by omega)
              replace hX := Aside0.mk hX
              replace hY := Aside0.mk hY
              go_region
              go_wp2
              go_meet
              case rel => exact ⟨(HA.out.swap hB (i := i2) (j := j2) (by omega) (by omega) (by rw [hY.out]) (by rw [hX.out])).drew⟩
            case rest =>
              clear HA
              have HA := hcut
              clear hcut
              obtain ⟨m, hm⟩ : ∃ m, m + 1 = j2 := ⟨j2 - 1, by omega⟩
              have e2 : (j2 : Int) - 1 = (m : Int) := by omega
              go_wp2
              go_roundw
              case rel => exact ⟨i2 + 1, m, swp dk i2 j2, by simp, rfl, by omega, by omega, by omega, by rw [size_swp]; exact hds, HA, ⟨by rw [← hE.out, show j2 - 1 = m by omega]⟩⟩
              case measure => simp [intOf] <;> omega
set_option maxHeartbeats 8000000 in
set_option maxRecDepth 100000 in
theorem part (blk cap : Nat) (d : Array Int) (a b p : Nat) (w : World) (hH : Holds enc w blk 0 d) (hB : blk < w.heap.size) (hap : a ≤ p) (hpb : p < b) (hb : b ≤ d.size) (hsz : d.size < 2305843009213693952) :
    Calls Tryd.prog 92 #[.slice (some ⟨blk, 0, none⟩) d.size cap, .int .i64 a, .int .i64 b, .int .i64 p] w fun e w' => e = .returned (.tuple #[.int .i64 (partition lt d a b p).1, .bool (partition lt d a b p).2.1]) ∧ At w blk (partition lt d a b p).2.2 w' := by
  have HA := Aside0.mk (At.start hH)
  obtain ⟨P, hP⟩ : ∃ P, partition lt d a b p = P := ⟨_, rfl⟩
  rw [hP]
  unfold partition at hP
  dsimp only at hP
  obtain ⟨i0, hi0⟩ : ∃ i0, a + 1 = i0 := ⟨_, rfl⟩
  obtain ⟨j0, hj0⟩ : ∃ j0, b - 1 = j0 := ⟨_, rfl⟩
  rw [hi0, hj0] at hP
  have hds0 : d.size = d.size := rfl
  have hP := Aside0.mk hP
  go_enter Tryd.func92, Tryd.ntmps92
  go_upto_region 1 with (fail)
  go_cut [] (fun wc => Aside0 (At w blk (swp d a p) wc))
  case first =>
    by_cases heq : a = p
    · subst heq
      have hh := HA.out.holds hB hH hds0
      obtain ⟨ci, fi⟩ := at_cell hh (i := a) (by omega)
      clear hh
      obtain ⟨X, hX⟩ : ∃ X, d[a]! = X := ⟨_, rfl⟩
      rw [hX] at ci
      have v0_ := eq_true (show (0 : Int) ≤ (a : Int) by omega)
      have v1_ := eq_true (show (a : Int) < (d.size : Int) by omega)
      replace hX := Aside0.mk hX
      go_region
      all_goals go_wp2
      all_goals go_meet
      all_goals exact ⟨(HA.out.swap hB (i := a) (j := a) (by omega) (by omega) (by rw [hX.out]) (by rw [hX.out])).drew⟩
    · have heq2 : ¬ p = a := fun h => heq h.symm
      have hh := HA.out.holds hB hH hds0
      obtain ⟨ci, fi⟩ := at_cell hh (i := a) (by omega)
      obtain ⟨cj, fj⟩ := at_cell hh (i := p) (by omega)
      clear hh
      obtain ⟨X, hX⟩ : ∃ X, d[a]! = X := ⟨_, rfl⟩
      rw [hX] at ci
      obtain ⟨Y, hY⟩ : ∃ Y, d[p]! = Y := ⟨_, rfl⟩
      rw [hY] at cj
      have v0_ := eq_true (show (0 : Int) ≤ (a : Int) by omega)
      have v1_ := eq_true (show (a : Int) < (d.size : Int) by omega)
      have v2_ := eq_true (show (0 : Int) ≤ (p : Int) by omega)
      have v3_ := eq_true (show (p : Int) < (d.size : Int) by omega)
      replace hX := Aside0.mk hX
      replace hY := Aside0.mk hY
      go_region
      go_wp2
      go_meet
      case rel => exact ⟨(HA.out.swap hB (i := a) (j := p) (by omega) (by omega) (by rw [hY.out]) (by rw [hX.out])).drew⟩
  case rest =>
    clear HA
    have HA := hcut
    clear hcut
    obtain ⟨d1, hd1⟩ : ∃ d1, swp d a p = d1 := ⟨_, rfl⟩
    have hs1 : d1.size = d.size := by rw [← hd1, size_swp]
    rw [hd1] at HA
    have hP1 := hP.out
    rw [hd1] at hP1
    clear hd1 hP
    go_upto_region 2 with (fail)
    go_cut [10, 11] (fun x y wc => x = .int .i64 (i0 : Int) ∧ y = .int .i64 (j0 : Int) ∧ Aside0 (At w blk d1 wc))
    case first =>
      have e0 : (a : Int) + 1 = (i0 : Int) := by omega
      have e1 : (b : Int) - 1 = (j0 : Int) := by omega
      go_wp2
      go_meet
      case rel => exact ⟨rfl, rfl, HA⟩
    case rest =>
      clear HA
      obtain ⟨rfl, rfl, HA⟩ := hcut
      go_upto_block 0 with (fail)
      go_cut [10] (fun x wc => ∃ (i2 : Nat), x = .int .i64 i2 ∧ i0 ≤ i2 ∧ i2 ≤ j0 + 1 ∧ Aside0 (At w blk d1 wc) ∧ Aside0 (scanUp (fun x => lt x d1[a]!) d1 j0 i0 = i2) ∧ Aside0 (¬ i2 ≤ j0 ∨ (fun x => lt x d1[a]!) d1[i2]! = false))
      case first =>
        go_wp2
        go_loopw [10] (fun x wr2 => ∃ (i2 : Nat), x = .int .i64 i2 ∧ i0 ≤ i2 ∧ i2 ≤ j0 + 1 ∧ Aside0 (At w blk d1 wr2) ∧ Aside0 (scanUp (fun x => lt x d1[a]!) d1 j0 i0 = scanUp (fun x => lt x d1[a]!) d1 j0 i2)) (fun x _ => j0 + 1 - (intOf x).toNat)
        case atStart => exact ⟨i0, by first | rfl | (simp; done) | (simp <;> omega), Nat.le_refl _, by omega, HA, ⟨rfl⟩⟩
        case round =>
          clear HA
          obtain ⟨i2, rfl, hi2, hi3, HA, HI⟩ := hrel
          by_cases cb : i2 ≤ j0
          · have d2 : decide (i2 ≤ j0) = true := decide_eq_true cb
            have d3 : decide ((i2 : Int) ≤ (j0 : Int)) = true := decide_eq_true (by omega)
            have hh := HA.out.holds hB hH hs1
            obtain ⟨ci, fi⟩ := at_cell hh (i := a) (by omega)
            obtain ⟨cj, fj⟩ := at_cell hh (i := i2) (by omega)
            clear hh
            obtain ⟨X, hX⟩ : ∃ X, d1[a]! = X := ⟨_, rfl⟩
            rw [hX] at ci
            obtain ⟨Y, hY⟩ : ∃ Y, d1[i2]! = Y := ⟨_, rfl⟩
            rw [hY] at cj
            have v0_ := eq_true (show (0 : Int) ≤ (a : Int) by omega)
            have v1_ := eq_true (show (a : Int) < (d.size : Int) by omega)
            have v2_ := eq_true (show (0 : Int) ≤ (i2 : Int) by omega)
            have v3_ := eq_true (show (i2 : Int) < (d.size : Int) by omega)
            obtain ⟨L, hL⟩ : ∃ L, lt Y X = L := ⟨_, rfl⟩
            have hp : (fun x => lt x d1[a]!) d1[i2]! = L := by simp only [hX, hY, hL]
            replace hp := Aside0.mk hp
            replace hL := Aside0.mk hL
            replace hX := Aside0.mk hX
            replace hY := Aside0.mk hY
            go_wp2
            go_quiet ((go_at_call 90; refine Calls.quiet_of (less _ _ L hL.out _)))
            have HA2 := Aside0.mk (HA.out.drewN nq)
            clear HA ci cj fi fj
            generalize wr.drewN nq = ws at HA2 ⊢
            cases L
            · go_wp2
              go_meet
              case rel => exact ⟨i2, rfl, hi2, hi3, HA2, ⟨by rw [HI.out, up_stop (p := (fun x => lt x d1[a]!)) (.inr hp.out)]⟩, ⟨.inr hp.out⟩⟩
            · go_wp2
              go_roundw
              case rel => exact ⟨i2 + 1, by simp, by omega, by omega, HA2, ⟨by rw [HI.out, up_go (p := (fun x => lt x d1[a]!)) cb hp.out]⟩⟩
              case measure => simp [intOf] <;> omega
          · have d2 : decide (i2 ≤ j0) = false := decide_eq_false cb
            have d3 : decide ((i2 : Int) ≤ (j0 : Int)) = false := decide_eq_false (by omega)
            go_wp2
            go_quiet (fail)
            have HA2 := Aside0.mk (HA.out.drewN nq)
            clear HA
            generalize wr.drewN nq = ws at HA2 ⊢
            go_wp2
            go_meet
            case rel => exact ⟨i2, rfl, hi2, hi3, HA2, ⟨by rw [HI.out, up_stop (p := (fun x => lt x d1[a]!)) (.inl cb)]⟩, ⟨.inl cb⟩⟩
      case rest =>
        clear HA
        obtain ⟨i2, rfl, hi2, hi3, HA, HU, HU2⟩ := hcut
        go_upto_block 2 with (fail)
        go_cut [11] (fun x wc => ∃ (j2 : Nat), x = .int .i64 j2 ∧ j2 ≤ j0 ∧ i2 ≤ j2 + 1 ∧ Aside0 (At w blk d1 wc) ∧ Aside0 (scanDown (fun x => !lt x d1[a]!) d1 i2 j0 = j2) ∧ Aside0 (¬ i2 ≤ j2 ∨ (fun x => !lt x d1[a]!) d1[j2]! = false))
        case first =>
          go_wp2
          go_loopw [11] (fun x wr2 => ∃ (j2 : Nat), x = .int .i64 j2 ∧ j2 ≤ j0 ∧ i2 ≤ j2 + 1 ∧ Aside0 (At w blk d1 wr2) ∧ Aside0 (scanDown (fun x => !lt x d1[a]!) d1 i2 j0 = scanDown (fun x => !lt x d1[a]!) d1 i2 j2)) (fun x _ => (intOf x).toNat)
          case atStart => exact ⟨j0, by first | rfl | (simp; done) | (simp <;> omega), Nat.le_refl _, by omega, HA, ⟨rfl⟩⟩
          case round =>
            clear HA
            obtain ⟨j2, rfl, hj2, hj3, HA, HI⟩ := hrel
            by_cases cb : i2 ≤ j2
            · have d2 : decide (i2 ≤ j2) = true := decide_eq_true cb
              have d3 : decide ((i2 : Int) ≤ (j2 : Int)) = true := decide_eq_true (by omega)
              have hh := HA.out.holds hB hH hs1
              obtain ⟨ci, fi⟩ := at_cell hh (i := a) (by omega)
              obtain ⟨cj, fj⟩ := at_cell hh (i := j2) (by omega)
              clear hh
              obtain ⟨X, hX⟩ : ∃ X, d1[a]! = X := ⟨_, rfl⟩
              rw [hX] at ci
              obtain ⟨Y, hY⟩ : ∃ Y, d1[j2]! = Y := ⟨_, rfl⟩
              rw [hY] at cj
              have v0_ := eq_true (show (0 : Int) ≤ (a : Int) by omega)
              have v1_ := eq_true (show (a : Int) < (d.size : Int) by omega)
              have v2_ := eq_true (show (0 : Int) ≤ (j2 : Int) by omega)
              have v3_ := eq_true (show (j2 : Int) < (d.size : Int) by omega)
              obtain ⟨L, hL⟩ : ∃ L, lt Y X = L := ⟨_, rfl⟩
              have hp : (fun x => !lt x d1[a]!) d1[j2]! = !L := by simp only [hX, hY, hL]
              obtain ⟨m, hm⟩ : ∃ m, m + 1 = j2 := ⟨j2 - 1, by omega⟩
              have e2 : (j2 : Int) - 1 = (m : Int) := by omega
              replace hp := Aside0.mk hp
              replace hL := Aside0.mk hL
              replace hX := Aside0.mk hX
              replace hY := Aside0.mk hY
              go_wp2
              go_quiet ((go_at_call 90; refine Calls.quiet_of (less _ _ L hL.out _)))
              have HA2 := Aside0.mk (HA.out.drewN nq)
              clear HA ci cj fi fj
              generalize wr.drewN nq = ws at HA2 ⊢
              cases L
              · go_wp2
                go_roundw
                case rel => exact ⟨m, rfl, by omega, by omega, HA2, ⟨by rw [HI.out, down_go (p := (fun x => !lt x d1[a]!)) hm cb hp.out]⟩⟩
                case measure => simp [intOf] <;> omega
              · go_wp2
                go_meet
                case rel => exact ⟨j2, rfl, hj2, hj3, HA2, ⟨by rw [HI.out, down_stop (p := (fun x => !lt x d1[a]!)) (.inr hp.out)]⟩, ⟨.inr hp.out⟩⟩
            · have d2 : decide (i2 ≤ j2) = false := decide_eq_false cb
              have d3 : decide ((i2 : Int) ≤ (j2 : Int)) = false := decide_eq_false (by omega)
              go_wp2
              go_quiet (fail)
              have HA2 := Aside0.mk (HA.out.drewN nq)
              clear HA
              generalize wr.drewN nq = ws at HA2 ⊢
              go_wp2
              go_meet
              case rel => exact ⟨j2, rfl, hj2, hj3, HA2, ⟨by rw [HI.out, down_stop (p := (fun x => !lt x d1[a]!)) (.inl cb)]⟩, ⟨.inl cb⟩⟩
        case rest =>
          clear HA
          obtain ⟨j2, rfl, hj2, hj3, HA, HD, HD2⟩ := hcut
          rw [HU.out, HD.out] at hP1
          by_cases cc : i2 > j2
          · have d2 : decide (j2 < i2) = true := decide_eq_true cc
            have d3 : decide ((j2 : Int) < (i2 : Int)) = true := decide_eq_true (by omega)
            rw [if_pos cc] at hP1
            replace hP1 := Aside0.mk hP1
            go_upto_region 8 with (fail)
            go_cut [] (fun wc => Aside0 (At w blk (swp d1 j2 a) wc))
            case first =>
              by_cases heq : j2 = a
              · subst heq
                have hh := HA.out.holds hB hH hs1
                obtain ⟨ci, fi⟩ := at_cell hh (i := j2) (by omega)
                clear hh
                obtain ⟨X, hX⟩ : ∃ X, d1[j2]! = X := ⟨_, rfl⟩
                rw [hX] at ci
                have v0_ := eq_true (show (0 : Int) ≤ (j2 : Int) by omega)
                have v1_ := eq_true (show (j2 : Int) < (d.size : Int) by omega)
                replace hX := Aside0.mk hX
                go_region
                all_goals go_wp2
                all_goals go_meet
                all_goals exact ⟨(HA.out.swap hB (i := j2) (j := j2) (by omega) (by omega) (by rw [hX.out]) (by rw [hX.out])).drew⟩
              · have heq2 : ¬ a = j2 := fun h => heq h.symm
                have hh := HA.out.holds hB hH hs1
                obtain ⟨ci, fi⟩ := at_cell hh (i := j2) (by omega)
                obtain ⟨cj, fj⟩ := at_cell hh (i := a) (by omega)
                clear hh
                obtain ⟨X, hX⟩ : ∃ X, d1[j2]! = X := ⟨_, rfl⟩
                rw [hX] at ci
                obtain ⟨Y, hY⟩ : ∃ Y, d1[a]! = Y := ⟨_, rfl⟩
                rw [hY] at cj
                have v0_ := eq_true (show (0 : Int) ≤ (j2 : Int) by omega)
                have v1_ := eq_true (show (j2 : Int) < (d.size : Int) by omega)
                have v2_ := eq_true (show (0 : Int) ≤ (a : Int) by omega)
                have v3_ := eq_true (show (a : Int) < (d.size : Int) by omega)
                replace hX := Aside0.mk hX
                replace hY := Aside0.mk hY
                go_region
                go_wp2
                go_meet
                case rel => exact ⟨(HA.out.swap hB (i := j2) (j := a) (by omega) (by omega) (by rw [hY.out]) (by rw [hX.out])).drew⟩
            case rest =>
              clear HA
              have HA := hcut
              clear hcut
              go_wp2
              go_ret2
              exact ⟨by rw [← hP1.out]; rfl, by rw [← hP1.out]; exact HA.out⟩
          · have d2 : decide (j2 < i2) = false := decide_eq_false cc
            have d3 : decide ((j2 : Int) < (i2 : Int)) = false := decide_eq_false (by omega)
            rw [if_neg cc] at hP1
            have hne : ¬ i2 = j2 := by
              rintro rfl
              rcases HU2.out with h | h
              · omega
              · rcases HD2.out with h2 | h2
                · omega
                · simp only [h] at h2
                  exact absurd h2 (by decide)
            go_upto_region 10 with (fail)
            go_cut [] (fun wc => Aside0 (At w blk (swp d1 i2 j2) wc))
            case first =>
              have heq : ¬ i2 = j2 := hne
              have heq2 : ¬ j2 = i2 := fun h => heq h.symm
              have hh := HA.out.holds hB hH hs1
              obtain ⟨ci, fi⟩ := at_cell hh (i := i2) (by omega)
              obtain ⟨cj, fj⟩ := at_cell hh (i := j2) (by omega)
              clear hh
              obtain ⟨X, hX⟩ : ∃ X, d1[i2]! = X := ⟨_, rfl⟩
              rw [hX] at ci
              obtain ⟨Y, hY⟩ : ∃ Y, d1[j2]! = Y := ⟨_, rfl⟩
              rw [hY] at cj
              have v0_ := eq_true (show (0 : Int) ≤ (i2 : Int) by omega)
              have v1_ := eq_true (show (i2 : Int) < (d.size : Int) by omega)
              have v2_ := eq_true (show (0 : Int) ≤ (j2 : Int) by omega)
              have v3_ := eq_true (show (j2 : Int) < (d.size : Int) by omega)
              replace hX := Aside0.mk hX
              replace hY := Aside0.mk hY
              go_region
              go_wp2
              go_meet
              case rel => exact ⟨(HA.out.swap hB (i := i2) (j := j2) (by omega) (by omega) (by rw [hY.out]) (by rw [hX.out])).drew⟩
            case rest =>
              clear HA
              have HA := hcut
              clear hcut
              obtain ⟨i4, hi4⟩ : ∃ i, i2 + 1 = i := ⟨_, rfl⟩
              obtain ⟨j4, hj4⟩ : ∃ j, j2 - 1 = j := ⟨_, rfl⟩
              obtain ⟨d4, hd4⟩ : ∃ x, swp d1 i2 j2 = x := ⟨_, rfl⟩
              have hs4 : d4.size = d.size := by rw [← hd4, size_swp]; exact hs1
              rw [hi4, hj4, hd4] at hP1
              rw [hd4] at HA
              obtain ⟨R, hR⟩ : ∃ R, partLoop lt a i4 j4 d4 = R := ⟨_, rfl⟩
              rw [hR] at hP1
              replace hP1 := Aside0.mk hP1
              replace hR := Aside0.mk hR
              clear HU HU2 HD HD2 hd4
              have e0 : (i2 : Int) + 1 = (i4 : Int) := by omega
              have e1 : (j2 : Int) - 1 = (j4 : Int) := by omega
              go_upto_block 4 with (fail)
              clear e0 e1
              go_cut [11] (fun y wc => ∃ (j : Nat) (dk : Array Int), y = .int .i64 j ∧ a ≤ j ∧ j < b ∧ dk.size = d.size ∧ Aside0 (At w blk dk wc) ∧ Aside0 (R = (j, dk)))
              case first =>
                go_wp2
                go_loopw [10, 11] (fun x y wr => ∃ (i j : Nat) (dk : Array Int), x = .int .i64 i ∧ y = .int .i64 j ∧ a + 1 ≤ i ∧ i ≤ j + 1 ∧ j < b ∧ dk.size = d.size ∧ Aside0 (At w blk dk wr) ∧ Aside0 (partLoop lt a i j dk = R)) (fun x y _ => (intOf y + 1 - intOf x).toNat)
                case atStart => exact ⟨i4, j4, d4, rfl, rfl, by omega, by omega, by omega, hs4, HA, hR⟩
                case round =>
                  clear HA
                  obtain ⟨i, j, dk, rfl, rfl, hi, hij, hj, hds, HA, HE⟩ := hrel
                  go_upto_block 6 with (fail)
                  go_cut [10] (fun x wc => ∃ (i2 : Nat), x = .int .i64 i2 ∧ i ≤ i2 ∧ i2 ≤ j + 1 ∧ Aside0 (At w blk dk wc) ∧ Aside0 (scanUp (fun x => lt x dk[a]!) dk j i = i2) ∧ Aside0 (¬ i2 ≤ j ∨ (fun x => lt x dk[a]!) dk[i2]! = false))
                  case first =>
                    go_wp2
                    go_loopw [10] (fun x wr2 => ∃ (i2 : Nat), x = .int .i64 i2 ∧ i ≤ i2 ∧ i2 ≤ j + 1 ∧ Aside0 (At w blk dk wr2) ∧ Aside0 (scanUp (fun x => lt x dk[a]!) dk j i = scanUp (fun x => lt x dk[a]!) dk j i2)) (fun x _ => j + 1 - (intOf x).toNat)
                    case atStart => exact ⟨i, by first | rfl | (simp; done) | (simp <;> omega), Nat.le_refl _, by omega, HA, ⟨rfl⟩⟩
                    case round =>
                      clear HA
                      obtain ⟨i2, rfl, hi2, hi3, HA, HI⟩ := hrel
                      by_cases cb : i2 ≤ j
                      · have d2 : decide (i2 ≤ j) = true := decide_eq_true cb
                        have d3 : decide ((i2 : Int) ≤ (j : Int)) = true := decide_eq_true (by omega)
                        have hh := HA.out.holds hB hH hds
                        obtain ⟨ci, fi⟩ := at_cell hh (i := a) (by omega)
                        obtain ⟨cj, fj⟩ := at_cell hh (i := i2) (by omega)
                        clear hh
                        obtain ⟨X, hX⟩ : ∃ X, dk[a]! = X := ⟨_, rfl⟩
                        rw [hX] at ci
                        obtain ⟨Y, hY⟩ : ∃ Y, dk[i2]! = Y := ⟨_, rfl⟩
                        rw [hY] at cj
                        have v0_ := eq_true (show (0 : Int) ≤ (a : Int) by omega)
                        have v1_ := eq_true (show (a : Int) < (d.size : Int) by omega)
                        have v2_ := eq_true (show (0 : Int) ≤ (i2 : Int) by omega)
                        have v3_ := eq_true (show (i2 : Int) < (d.size : Int) by omega)
                        obtain ⟨L, hL⟩ : ∃ L, lt Y X = L := ⟨_, rfl⟩
                        have hp : (fun x => lt x dk[a]!) dk[i2]! = L := by simp only [hX, hY, hL]
                        replace hp := Aside0.mk hp
                        replace hL := Aside0.mk hL
                        replace hX := Aside0.mk hX
                        replace hY := Aside0.mk hY
                        go_wp2
                        go_quiet ((go_at_call 90; refine Calls.quiet_of (less _ _ L hL.out _)))
                        have HA2 := Aside0.mk (HA.out.drewN nq)
                        clear HA ci cj fi fj
                        generalize wr.drewN nq = ws at HA2 ⊢
                        cases L
                        · go_wp2
                          go_meet
                          case rel => exact ⟨i2, rfl, hi2, hi3, HA2, ⟨by rw [HI.out, up_stop (p := (fun x => lt x dk[a]!)) (.inr hp.out)]⟩, ⟨.inr hp.out⟩⟩
                        · go_wp2
                          go_roundw
                          case rel => exact ⟨i2 + 1, by simp, by omega, by omega, HA2, ⟨by rw [HI.out, up_go (p := (fun x => lt x dk[a]!)) cb hp.out]⟩⟩
                          case measure => simp [intOf] <;> omega
                      · have d2 : decide (i2 ≤ j) = false := decide_eq_false cb
                        have d3 : decide ((i2 : Int) ≤ (j : Int)) = false := decide_eq_false (by omega)
                        go_wp2
                        go_quiet (fail)
                        have HA2 := Aside0.mk (HA.out.drewN nq)
                        clear HA
                        generalize wr.drewN nq = ws at HA2 ⊢
                        go_wp2
                        go_meet
                        case rel => exact ⟨i2, rfl, hi2, hi3, HA2, ⟨by rw [HI.out, up_stop (p := (fun x => lt x dk[a]!)) (.inl cb)]⟩, ⟨.inl cb⟩⟩
                  case rest =>
                    clear HA
                    obtain ⟨i6, rfl, hi6, hi7, HA, HU, HU2⟩ := hcut
                    go_upto_block 8 with (fail)
                    go_cut [11] (fun x wc => ∃ (j2 : Nat), x = .int .i64 j2 ∧ j2 ≤ j ∧ i6 ≤ j2 + 1 ∧ Aside0 (At w blk dk wc) ∧ Aside0 (scanDown (fun x => !lt x dk[a]!) dk i6 j = j2) ∧ Aside0 (¬ i6 ≤ j2 ∨ (fun x => !lt x dk[a]!) dk[j2]! = false))
                    case first =>
                      go_wp2
                      go_loopw [11] (fun x wr2 => ∃ (j2 : Nat), x = .int .i64 j2 ∧ j2 ≤ j ∧ i6 ≤ j2 + 1 ∧ Aside0 (At w blk dk wr2) ∧ Aside0 (scanDown (fun x => !lt x dk[a]!) dk i6 j = scanDown (fun x => !lt x dk[a]!) dk i6 j2)) (fun x _ => (intOf x).toNat)
                      case atStart => exact ⟨j, by first | rfl | (simp; done) | (simp <;> omega), Nat.le_refl _, by omega, HA, ⟨rfl⟩⟩
                      case round =>
                        clear HA
                        obtain ⟨j2, rfl, hj2, hj3, HA, HI⟩ := hrel
                        by_cases cb : i6 ≤ j2
                        · have d2 : decide (i6 ≤ j2) = true := decide_eq_true cb
                          have d3 : decide ((i6 : Int) ≤ (j2 : Int)) = true := decide_eq_true (by omega)
                          have hh := HA.out.holds hB hH hds
                          obtain ⟨ci, fi⟩ := at_cell hh (i := a) (by omega)
                          obtain ⟨cj, fj⟩ := at_cell hh (i := j2) (by omega)
                          clear hh
                          obtain ⟨X, hX⟩ : ∃ X, dk[a]! = X := ⟨_, rfl⟩
                          rw [hX] at ci
                          obtain ⟨Y, hY⟩ : ∃ Y, dk[j2]! = Y := ⟨_, rfl⟩
                          rw [hY] at cj
                          have v0_ := eq_true (show (0 : Int) ≤ (a : Int) by omega)
                          have v1_ := eq_true (show (a : Int) < (d.size : Int) by omega)
                          have v2_ := eq_true (show (0 : Int) ≤ (j2 : Int) by omega)
                          have v3_ := eq_true (show (j2 : Int) < (d.size : Int) by omega)
                          obtain ⟨L, hL⟩ : ∃ L, lt Y X = L := ⟨_, rfl⟩
                          have hp : (fun x => !lt x dk[a]!) dk[j2]! = !L := by simp only [hX, hY, hL]
                          obtain ⟨m, hm⟩ : ∃ m, m + 1 = j2 := ⟨j2 - 1, by omega⟩
                          have e2 : (j2 : Int) - 1 = (m : Int) := by omega
                          replace hp := Aside0.mk hp
                          replace hL := Aside0.mk hL
                          replace hX := Aside0.mk hX
                          replace hY := Aside0.mk hY
                          go_wp2
                          go_quiet ((go_at_call 90; refine Calls.quiet_of (less _ _ L hL.out _)))
                          have HA2 := Aside0.mk (HA.out.drewN nq)
                          clear HA ci cj fi fj
                          generalize wr.drewN nq = ws at HA2 ⊢
                          cases L
                          · go_wp2
                            go_roundw
                            case rel => exact ⟨m, rfl, by omega, by omega, HA2, ⟨by rw [HI.out, down_go (p := (fun x => !lt x dk[a]!)) hm cb hp.out]⟩⟩
                            case measure => simp [intOf] <;> omega
                          · go_wp2
                            go_meet
                            case rel => exact ⟨j2, rfl, hj2, hj3, HA2, ⟨by rw [HI.out, down_stop (p := (fun x => !lt x dk[a]!)) (.inr hp.out)]⟩, ⟨.inr hp.out⟩⟩
                        · have d2 : decide (i6 ≤ j2) = false := decide_eq_false cb
                          have d3 : decide ((i6 : Int) ≤ (j2 : Int)) = false := decide_eq_false (by omega)
                          go_wp2
                          go_quiet (fail)
                          have HA2 := Aside0.mk (HA.out.drewN nq)
                          clear HA
                          generalize wr.drewN nq = ws at HA2 ⊢
                          go_wp2
                          go_meet
                          case rel => exact ⟨j2, rfl, hj2, hj3, HA2, ⟨by rw [HI.out, down_stop (p := (fun x => !lt x dk[a]!)) (.inl cb)]⟩, ⟨.inl cb⟩⟩
                    case rest =>
                      clear HA
                      obtain ⟨j6, rfl, hj6, hj7, HA, HD, HD2⟩ := hcut
                      have hE := HE.out
                      rw [partLoop_eq, HU.out, HD.out] at hE
                      by_cases cc : i6 > j6
                      · have d2 : decide (j6 < i6) = true := decide_eq_true cc
                        have d3 : decide ((j6 : Int) < (i6 : Int)) = true := decide_eq_true (by omega)
                        rw [if_pos cc] at hE
                        replace hE := Aside0.mk hE
                        go_wp2
                        go_meet
                        case rel => exact ⟨j6, dk, rfl, by omega, by omega, hds, HA, ⟨hE.out.symm⟩⟩
                      · have d2 : decide (j6 < i6) = false := decide_eq_false cc
                        have d3 : decide ((j6 : Int) < (i6 : Int)) = false := decide_eq_false (by omega)
                        rw [if_neg cc] at hE
                        replace hE := Aside0.mk hE
                        have hne : ¬ i6 = j6 := by
                          rintro rfl
                          rcases HU2.out with h | h
                          · omega
                          · rcases HD2.out with h2 | h2
                            · omega
                            · simp only [h] at h2
                              exact absurd h2 (by decide)
                        go_upto_region 18 with (fail)
                        go_cut [] (fun wc => Aside0 (At w blk (swp dk i6 j6) wc))
                        case first =>
                          have heq : ¬ i6 = j6 := hne
                          have heq2 : ¬ j6 = i6 := fun h => heq h.symm
                          have hh := HA.out.holds hB hH hds
                          obtain ⟨ci, fi⟩ := at_cell hh (i := i6) (by omega)
                          obtain ⟨cj, fj⟩ := at_cell hh (i := j6) (by omega)
                          clear hh
                          obtain ⟨X, hX⟩ : ∃ X, dk[i6]! = X := ⟨_, rfl⟩
                          rw [hX] at ci
                          obtain ⟨Y, hY⟩ : ∃ Y, dk[j6]! = Y := ⟨_, rfl⟩
                          rw [hY] at cj
                          have v0_ := eq_true (show (0 : Int) ≤ (i6 : Int) by omega)
                          have v1_ := eq_true (show (i6 : Int) < (d.size : Int) by omega)
                          have v2_ := eq_true (show (0 : Int) ≤ (j6 : Int) by omega)
                          have v3_ := eq_true (show (j6 : Int) < (d.size : Int) by omega)
                          replace hX := Aside0.mk hX
                          replace hY := Aside0.mk hY
                          go_region
                          go_wp2
                          go_meet
                          case rel => exact ⟨(HA.out.swap hB (i := i6) (j := j6) (by omega) (by omega) (by rw [hY.out]) (by rw [hX.out])).drew⟩
                        case rest =>
                          clear HA
                          have HA := hcut
                          clear hcut
                          obtain ⟨m, hm⟩ : ∃ m, m + 1 = j6 := ⟨j6 - 1, by omega⟩
                          have e2 : (j6 : Int) - 1 = (m : Int) := by omega
                          go_wp2
                          go_roundw
                          case rel => exact ⟨i6 + 1, m, swp dk i6 j6, by simp, rfl, by omega, by omega, by omega, by rw [size_swp]; exact hds, HA, ⟨by rw [← hE.out, show j6 - 1 = m by omega]⟩⟩
                          case measure => simp [intOf] <;> omega
              case rest =>
                clear HA
                obtain ⟨j, dk, rfl, hj5, hj6, hds, HA, HR⟩ := hcut
                go_upto_region 21 with (fail)
                go_cut [] (fun wc => Aside0 (At w blk (swp dk j a) wc))
                case first =>
                  by_cases heq : j = a
                  · subst heq
                    have hh := HA.out.holds hB hH hds
                    obtain ⟨ci, fi⟩ := at_cell hh (i := j) (by omega)
                    clear hh
                    obtain ⟨X, hX⟩ : ∃ X, dk[j]! = X := ⟨_, rfl⟩
                    rw [hX] at ci
                    have v0_ := eq_true (show (0 : Int) ≤ (j : Int) by omega)
                    have v1_ := eq_true (show (j : Int) < (d.size : Int) by omega)
                    replace hX := Aside0.mk hX
                    go_region
                    all_goals go_wp2
                    all_goals go_meet
                    all_goals exact ⟨(HA.out.swap hB (i := j) (j := j) (by omega) (by omega) (by rw [hX.out]) (by rw [hX.out])).drew⟩
                  · have heq2 : ¬ a = j := fun h => heq h.symm
                    have hh := HA.out.holds hB hH hds
                    obtain ⟨ci, fi⟩ := at_cell hh (i := j) (by omega)
                    obtain ⟨cj, fj⟩ := at_cell hh (i := a) (by omega)
                    clear hh
                    obtain ⟨X, hX⟩ : ∃ X, dk[j]! = X := ⟨_, rfl⟩
                    rw [hX] at ci
                    obtain ⟨Y, hY⟩ : ∃ Y, dk[a]! = Y := ⟨_, rfl⟩
                    rw [hY] at cj
                    have v0_ := eq_true (show (0 : Int) ≤ (j : Int) by omega)
                    have v1_ := eq_true (show (j : Int) < (d.size : Int) by omega)
                    have v2_ := eq_true (show (0 : Int) ≤ (a : Int) by omega)
                    have v3_ := eq_true (show (a : Int) < (d.size : Int) by omega)
                    replace hX := Aside0.mk hX
                    replace hY := Aside0.mk hY
                    go_region
                    go_wp2
                    go_meet
                    case rel => exact ⟨(HA.out.swap hB (i := j) (j := a) (by omega) (by omega) (by rw [hY.out]) (by rw [hX.out])).drew⟩
                case rest =>
                  clear HA
                  have HA := hcut
                  clear hcut
                  go_wp2
                  go_ret2
                  have h9 := hP1.out
                  rw [HR.out] at h9
                  exact ⟨by rw [← h9]; rfl, by rw [← h9]; exact HA.out⟩
end Go.Proofs.YtfnkboilepgmoaaDoor.Srt
