import Derived.Test.YtcajiapjdlphmaaGPre
import Derived.Test.YtcajiapjdlphmaaGabcdefx0
namespace Go.Proofs.Ytcajiapjdlphmaa.H
open Go.RowKit Go.Proofs.YtcajiapjdlphmaaW.PrintWords Go.Proofs.YtcajiapjdlphmaaW.PrintLast Go.Proofs.YtcajiapjdlphmaaW.PrintMore
attribute [local go_sem] max2_int min2_int max_two min_two max_three min_three max_four min_four
set_option linter.unusedVariables false
set_option linter.unusedSimpArgs false
def token_named.l0 : Nat → ByteArray → Int → Option (Bool)
 | 0, _, _ => none
 | k + 1, x0, x3 => if x3 < (x0.size : Int) then (if 0 ≤ x3 then (if (bt x0 x3) ≥ 97 then (if (bt x0 x3) ≤ 122 then (token_named.l0 k x0 (wrap64 (x3 + 1))) else (if (bt x0 x3) ≥ 65 then (if (bt x0 x3) ≤ 90 then (token_named.l0 k x0 (wrap64 (x3 + 1))) else (if (bt x0 x3) = 95 then (token_named.l0 k x0 (wrap64 (x3 + 1))) else (if x3 > 0 then (if (bt x0 x3) ≥ 48 then (if (bt x0 x3) ≤ 57 then (token_named.l0 k x0 (wrap64 (x3 + 1))) else (some false)) else (some false)) else (some false)))) else (if (bt x0 x3) = 95 then (token_named.l0 k x0 (wrap64 (x3 + 1))) else (if x3 > 0 then (if (bt x0 x3) ≥ 48 then (if (bt x0 x3) ≤ 57 then (token_named.l0 k x0 (wrap64 (x3 + 1))) else (some false)) else (some false)) else (some false))))) else (if (bt x0 x3) ≥ 65 then (if (bt x0 x3) ≤ 90 then (token_named.l0 k x0 (wrap64 (x3 + 1))) else (if (bt x0 x3) = 95 then (token_named.l0 k x0 (wrap64 (x3 + 1))) else (if x3 > 0 then (if (bt x0 x3) ≥ 48 then (if (bt x0 x3) ≤ 57 then (token_named.l0 k x0 (wrap64 (x3 + 1))) else (some false)) else (some false)) else (some false)))) else (if (bt x0 x3) = 95 then (token_named.l0 k x0 (wrap64 (x3 + 1))) else (if x3 > 0 then (if (bt x0 x3) ≥ 48 then (if (bt x0 x3) ≤ 57 then (token_named.l0 k x0 (wrap64 (x3 + 1))) else (some false)) else (some false)) else (some false))))) else (none)) else (if (x0.size : Int) ≥ 1 then (some (decide ((x0.size : Int) ≤ 64))) else (some false))
def token_named.f (k : Nat) (a0 : ByteArray) : Option (Bool) := token_named.l0 k a0 0
theorem token_named.mono_l : ∀ k, (∀ y0 y1, LeO (token_named.l0 k y0 y1) (token_named.l0 (k + 1) y0 y1))
 | 0 => fun _ _ r h => by simp [token_named.l0] at h
 | k + 1 => by
  have ih0 := token_named.mono_l k
  ·intro y0 y1
   unfold token_named.l0
   repeat' first
   | (with_reducible exact ih0 _ _)
   | (with_reducible exact LeO.refl _)
   | (with_reducible exact LeO.none _)
   | (with_reducible refine LeO.ite ?_ ?_)
   | (with_reducible refine LeO.bind ?_ (fun _ => ?_))
   | exact ih0 _ _
   | exact LeO.none _
   | refine LeO.ite ?_ ?_
   | refine LeO.bind ?_ (fun _ => ?_)
theorem token_named.mono : ∀ a0 k, LeO (token_named.f k a0) (token_named.f (k + 1) a0) := by
 intro a0 k
 have ih0 := token_named.mono_l k
 unfold token_named.f
 repeat' first
   | (with_reducible exact ih0 _ _)
   | (with_reducible exact LeO.refl _)
   | (with_reducible exact LeO.none _)
   | (with_reducible refine LeO.ite ?_ ?_)
   | (with_reducible refine LeO.bind ?_ (fun _ => ?_))
   | exact ih0 _ _
   | exact LeO.none _
   | refine LeO.ite ?_ ?_
   | refine LeO.bind ?_ (fun _ => ?_)
set_option maxHeartbeats 8000000 in
set_option maxRecDepth 100000 in
theorem token_named.calls (k : Nat) (a0 : ByteArray) (r : Bool) (w : World) (h : token_named.f k a0 = some r) :
  Calls Try.prog 86 #[.string a0] w fun e w' => e = .returned (.bool r) ∧ Drawn0 w w' := by
 have H : (token_named.l0 k a0 0) = some r := h
 clear h
 have H' := Aside0.mk H
 clear H
 go_enter Try.func86, Try.ntmps86
 go_wp2
 go_loopg [3] k (fun kq v3 w' => ∃ (x3_1 : Int), v3 = .int .i64 x3_1 ∧ Aside0 (token_named.l0 kq a0 x3_1 = some r) ∧ Aside0 (kq ≤ k) ∧ Drawn0 w w')
 case atStart => exact ⟨(0), (by first | rfl | (simp; done) | (simp [*]; done) | (simp <;> omega) | rw [u32_tmod]), H', ⟨Nat.le_refl _⟩, by repeat (first | exact Drawn0.refl _ | apply Drawn0.step)⟩
 case round =>
  clear H'
  obtain ⟨x3_1, rfl, HA, HK1, ⟨m1, rfl⟩⟩ := hrel
  cases gk with
  | zero => exact absurd HA.out (by simp [token_named.l0])
  | succ k1 =>
   have H := HA.out
   clear HA
   simp only [token_named.l0] at H
   by_cases c2 : x3_1 < (a0.size : Int)
   ·rw [if_pos c2] at H
    have c2b0 : decide (x3_1 < (a0.size : Int)) = true := decide_eq_true c2
    clear c2
    by_cases c3 : 0 ≤ x3_1
    ·rw [if_pos c3] at H
     have c3b0 : decide (0 ≤ x3_1) = true := decide_eq_true c3
     clear c3
     by_cases c5 : (bt a0 x3_1) ≥ 97
     ·rw [if_pos c5] at H
      have c5b0 : decide (97 ≤ (bt a0 x3_1)) = true := decide_eq_true c5
      clear c5
      by_cases c6 : (bt a0 x3_1) ≤ 122
      ·rw [if_pos c6] at H
       have c6b0 : decide ((bt a0 x3_1) ≤ 122) = true := decide_eq_true c6
       clear c6
       have H' := Aside0.mk H
       clear H
       have p4 : 0 ≤ (x3_1 : Int) := of_decide_eq_true (by first | (with_reducible assumption) | assumption)
       have q4 : x3_1 < (a0.size : Int) := of_decide_eq_true (by first | (with_reducible assumption) | assumption)
       have hx4 := bt_at a0 x3_1
       replace p4 := eq_true p4
       replace q4 := eq_true q4
       go_wp2
       go_roundg k1
       case measure => have := HK1.out; omega
       case rel => exact ⟨(wrap64 (x3_1 + 1)), (by first | rfl | (simp; done) | (simp [*]; done) | (simp <;> omega) | rw [u32_tmod]), H', ⟨by have := HK1.out; omega⟩, by repeat (first | exact Drawn0.refl _ | apply Drawn0.step)⟩
      ·rw [if_neg c6] at H
       have c6b0 : decide ((bt a0 x3_1) ≤ 122) = false := decide_eq_false c6
       clear c6
       by_cases c7 : (bt a0 x3_1) ≥ 65
       ·rw [if_pos c7] at H
        have c7b0 : decide (65 ≤ (bt a0 x3_1)) = true := decide_eq_true c7
        clear c7
        by_cases c8 : (bt a0 x3_1) ≤ 90
        ·rw [if_pos c8] at H
         have c8b0 : decide ((bt a0 x3_1) ≤ 90) = true := decide_eq_true c8
         clear c8
         have H' := Aside0.mk H
         clear H
         have p4 : 0 ≤ (x3_1 : Int) := of_decide_eq_true (by first | (with_reducible assumption) | assumption)
         have q4 : x3_1 < (a0.size : Int) := of_decide_eq_true (by first | (with_reducible assumption) | assumption)
         have hx4 := bt_at a0 x3_1
         replace p4 := eq_true p4
         replace q4 := eq_true q4
         go_wp2
         go_roundg k1
         case measure => have := HK1.out; omega
         case rel => exact ⟨(wrap64 (x3_1 + 1)), (by first | rfl | (simp; done) | (simp [*]; done) | (simp <;> omega) | rw [u32_tmod]), H', ⟨by have := HK1.out; omega⟩, by repeat (first | exact Drawn0.refl _ | apply Drawn0.step)⟩
        ·rw [if_neg c8] at H
         have c8b0 : decide ((bt a0 x3_1) ≤ 90) = false := decide_eq_false c8
         clear c8
         by_cases c9 : (bt a0 x3_1) = 95
         ·rw [if_pos c9] at H
          have c9b0 : ((bt a0 x3_1) == 95) = true := beq_iff_eq.mpr c9
          have c9b1 : ((bt a0 x3_1) != 95) = false := bne_eq_false_iff_eq.mpr c9
          clear c9
          have H' := Aside0.mk H
          clear H
          have p4 : 0 ≤ (x3_1 : Int) := of_decide_eq_true (by first | (with_reducible assumption) | assumption)
          have q4 : x3_1 < (a0.size : Int) := of_decide_eq_true (by first | (with_reducible assumption) | assumption)
          have hx4 := bt_at a0 x3_1
          replace p4 := eq_true p4
          replace q4 := eq_true q4
          go_wp2
          go_roundg k1
          case measure => have := HK1.out; omega
          case rel => exact ⟨(wrap64 (x3_1 + 1)), (by first | rfl | (simp; done) | (simp [*]; done) | (simp <;> omega) | rw [u32_tmod]), H', ⟨by have := HK1.out; omega⟩, by repeat (first | exact Drawn0.refl _ | apply Drawn0.step)⟩
         ·rw [if_neg c9] at H
          have c9b0 : ((bt a0 x3_1) == 95) = false := beq_eq_false_iff_ne.mpr c9
          have c9b1 : ((bt a0 x3_1) != 95) = true := bne_iff_ne.mpr c9
          by_cases c10 : x3_1 > 0
          ·rw [if_pos c10] at H
           have c10b0 : decide (0 < x3_1) = true := decide_eq_true c10
           clear c10
           by_cases c11 : (bt a0 x3_1) ≥ 48
           ·rw [if_pos c11] at H
            have c11b0 : decide (48 ≤ (bt a0 x3_1)) = true := decide_eq_true c11
            clear c11
            by_cases c12 : (bt a0 x3_1) ≤ 57
            ·rw [if_pos c12] at H
             have c12b0 : decide ((bt a0 x3_1) ≤ 57) = true := decide_eq_true c12
             clear c12
             have H' := Aside0.mk H
             clear H
             have p4 : 0 ≤ (x3_1 : Int) := of_decide_eq_true (by first | (with_reducible assumption) | assumption)
             have q4 : x3_1 < (a0.size : Int) := of_decide_eq_true (by first | (with_reducible assumption) | assumption)
             have hx4 := bt_at a0 x3_1
             replace p4 := eq_true p4
             replace q4 := eq_true q4
             go_wp2
             go_roundg k1
             case measure => have := HK1.out; omega
             case rel => exact ⟨(wrap64 (x3_1 + 1)), (by first | rfl | (simp; done) | (simp [*]; done) | (simp <;> omega) | rw [u32_tmod]), H', ⟨by have := HK1.out; omega⟩, by repeat (first | exact Drawn0.refl _ | apply Drawn0.step)⟩
            ·rw [if_neg c12] at H
             have c12b0 : decide ((bt a0 x3_1) ≤ 57) = false := decide_eq_false c12
             clear c12
             obtain rfl := Option.some.inj H
             have p4 : 0 ≤ (x3_1 : Int) := of_decide_eq_true (by first | (with_reducible assumption) | assumption)
             have q4 : x3_1 < (a0.size : Int) := of_decide_eq_true (by first | (with_reducible assumption) | assumption)
             have hx4 := bt_at a0 x3_1
             replace p4 := eq_true p4
             replace q4 := eq_true q4
             go_wp2
             go_ret
             exact ⟨by first | rfl | (simp; done) | (simp [*]; done) | (simp <;> omega) | rw [u32_tmod], by repeat (first | exact Drawn0.refl _ | apply Drawn0.step)⟩
           ·rw [if_neg c11] at H
            have c11b0 : decide (48 ≤ (bt a0 x3_1)) = false := decide_eq_false c11
            clear c11
            obtain rfl := Option.some.inj H
            have p4 : 0 ≤ (x3_1 : Int) := of_decide_eq_true (by first | (with_reducible assumption) | assumption)
            have q4 : x3_1 < (a0.size : Int) := of_decide_eq_true (by first | (with_reducible assumption) | assumption)
            have hx4 := bt_at a0 x3_1
            replace p4 := eq_true p4
            replace q4 := eq_true q4
            go_wp2
            go_ret
            exact ⟨by first | rfl | (simp; done) | (simp [*]; done) | (simp <;> omega) | rw [u32_tmod], by repeat (first | exact Drawn0.refl _ | apply Drawn0.step)⟩
          ·rw [if_neg c10] at H
           have c10b0 : decide (0 < x3_1) = false := decide_eq_false c10
           clear c10
           obtain rfl := Option.some.inj H
           have p4 : 0 ≤ (x3_1 : Int) := of_decide_eq_true (by first | (with_reducible assumption) | assumption)
           have q4 : x3_1 < (a0.size : Int) := of_decide_eq_true (by first | (with_reducible assumption) | assumption)
           have hx4 := bt_at a0 x3_1
           replace p4 := eq_true p4
           replace q4 := eq_true q4
           go_wp2
           go_ret
           exact ⟨by first | rfl | (simp; done) | (simp [*]; done) | (simp <;> omega) | rw [u32_tmod], by repeat (first | exact Drawn0.refl _ | apply Drawn0.step)⟩
       ·rw [if_neg c7] at H
        have c7b0 : decide (65 ≤ (bt a0 x3_1)) = false := decide_eq_false c7
        clear c7
        by_cases c13 : (bt a0 x3_1) = 95
        ·rw [if_pos c13] at H
         have c13b0 : ((bt a0 x3_1) == 95) = true := beq_iff_eq.mpr c13
         have c13b1 : ((bt a0 x3_1) != 95) = false := bne_eq_false_iff_eq.mpr c13
         clear c13
         have H' := Aside0.mk H
         clear H
         have p4 : 0 ≤ (x3_1 : Int) := of_decide_eq_true (by first | (with_reducible assumption) | assumption)
         have q4 : x3_1 < (a0.size : Int) := of_decide_eq_true (by first | (with_reducible assumption) | assumption)
         have hx4 := bt_at a0 x3_1
         replace p4 := eq_true p4
         replace q4 := eq_true q4
         go_wp2
         go_roundg k1
         case measure => have := HK1.out; omega
         case rel => exact ⟨(wrap64 (x3_1 + 1)), (by first | rfl | (simp; done) | (simp [*]; done) | (simp <;> omega) | rw [u32_tmod]), H', ⟨by have := HK1.out; omega⟩, by repeat (first | exact Drawn0.refl _ | apply Drawn0.step)⟩
        ·rw [if_neg c13] at H
         have c13b0 : ((bt a0 x3_1) == 95) = false := beq_eq_false_iff_ne.mpr c13
         have c13b1 : ((bt a0 x3_1) != 95) = true := bne_iff_ne.mpr c13
         by_cases c14 : x3_1 > 0
         ·rw [if_pos c14] at H
          have c14b0 : decide (0 < x3_1) = true := decide_eq_true c14
          clear c14
          by_cases c15 : (bt a0 x3_1) ≥ 48
          ·rw [if_pos c15] at H
           have c15b0 : decide (48 ≤ (bt a0 x3_1)) = true := decide_eq_true c15
           clear c15
           by_cases c16 : (bt a0 x3_1) ≤ 57
           ·rw [if_pos c16] at H
            have c16b0 : decide ((bt a0 x3_1) ≤ 57) = true := decide_eq_true c16
            clear c16
            have H' := Aside0.mk H
            clear H
            have p4 : 0 ≤ (x3_1 : Int) := of_decide_eq_true (by first | (with_reducible assumption) | assumption)
            have q4 : x3_1 < (a0.size : Int) := of_decide_eq_true (by first | (with_reducible assumption) | assumption)
            have hx4 := bt_at a0 x3_1
            replace p4 := eq_true p4
            replace q4 := eq_true q4
            go_wp2
            go_roundg k1
            case measure => have := HK1.out; omega
            case rel => exact ⟨(wrap64 (x3_1 + 1)), (by first | rfl | (simp; done) | (simp [*]; done) | (simp <;> omega) | rw [u32_tmod]), H', ⟨by have := HK1.out; omega⟩, by repeat (first | exact Drawn0.refl _ | apply Drawn0.step)⟩
           ·rw [if_neg c16] at H
            have c16b0 : decide ((bt a0 x3_1) ≤ 57) = false := decide_eq_false c16
            clear c16
            obtain rfl := Option.some.inj H
            have p4 : 0 ≤ (x3_1 : Int) := of_decide_eq_true (by first | (with_reducible assumption) | assumption)
            have q4 : x3_1 < (a0.size : Int) := of_decide_eq_true (by first | (with_reducible assumption) | assumption)
            have hx4 := bt_at a0 x3_1
            replace p4 := eq_true p4
            replace q4 := eq_true q4
            go_wp2
            go_ret
            exact ⟨by first | rfl | (simp; done) | (simp [*]; done) | (simp <;> omega) | rw [u32_tmod], by repeat (first | exact Drawn0.refl _ | apply Drawn0.step)⟩
          ·rw [if_neg c15] at H
           have c15b0 : decide (48 ≤ (bt a0 x3_1)) = false := decide_eq_false c15
           clear c15
           obtain rfl := Option.some.inj H
           have p4 : 0 ≤ (x3_1 : Int) := of_decide_eq_true (by first | (with_reducible assumption) | assumption)
           have q4 : x3_1 < (a0.size : Int) := of_decide_eq_true (by first | (with_reducible assumption) | assumption)
           have hx4 := bt_at a0 x3_1
           replace p4 := eq_true p4
           replace q4 := eq_true q4
           go_wp2
           go_ret
           exact ⟨by first | rfl | (simp; done) | (simp [*]; done) | (simp <;> omega) | rw [u32_tmod], by repeat (first | exact Drawn0.refl _ | apply Drawn0.step)⟩
         ·rw [if_neg c14] at H
          have c14b0 : decide (0 < x3_1) = false := decide_eq_false c14
          clear c14
          obtain rfl := Option.some.inj H
          have p4 : 0 ≤ (x3_1 : Int) := of_decide_eq_true (by first | (with_reducible assumption) | assumption)
          have q4 : x3_1 < (a0.size : Int) := of_decide_eq_true (by first | (with_reducible assumption) | assumption)
          have hx4 := bt_at a0 x3_1
          replace p4 := eq_true p4
          replace q4 := eq_true q4
          go_wp2
          go_ret
          exact ⟨by first | rfl | (simp; done) | (simp [*]; done) | (simp <;> omega) | rw [u32_tmod], by repeat (first | exact Drawn0.refl _ | apply Drawn0.step)⟩
     ·rw [if_neg c5] at H
      have c5b0 : decide (97 ≤ (bt a0 x3_1)) = false := decide_eq_false c5
      clear c5
      by_cases c17 : (bt a0 x3_1) ≥ 65
      ·rw [if_pos c17] at H
       have c17b0 : decide (65 ≤ (bt a0 x3_1)) = true := decide_eq_true c17
       clear c17
       by_cases c18 : (bt a0 x3_1) ≤ 90
       ·rw [if_pos c18] at H
        have c18b0 : decide ((bt a0 x3_1) ≤ 90) = true := decide_eq_true c18
        clear c18
        have H' := Aside0.mk H
        clear H
        have p4 : 0 ≤ (x3_1 : Int) := of_decide_eq_true (by first | (with_reducible assumption) | assumption)
        have q4 : x3_1 < (a0.size : Int) := of_decide_eq_true (by first | (with_reducible assumption) | assumption)
        have hx4 := bt_at a0 x3_1
        replace p4 := eq_true p4
        replace q4 := eq_true q4
        go_wp2
        go_roundg k1
        case measure => have := HK1.out; omega
        case rel => exact ⟨(wrap64 (x3_1 + 1)), (by first | rfl | (simp; done) | (simp [*]; done) | (simp <;> omega) | rw [u32_tmod]), H', ⟨by have := HK1.out; omega⟩, by repeat (first | exact Drawn0.refl _ | apply Drawn0.step)⟩
       ·rw [if_neg c18] at H
        have c18b0 : decide ((bt a0 x3_1) ≤ 90) = false := decide_eq_false c18
        clear c18
        by_cases c19 : (bt a0 x3_1) = 95
        ·rw [if_pos c19] at H
         have c19b0 : ((bt a0 x3_1) == 95) = true := beq_iff_eq.mpr c19
         have c19b1 : ((bt a0 x3_1) != 95) = false := bne_eq_false_iff_eq.mpr c19
         clear c19
         have H' := Aside0.mk H
         clear H
         have p4 : 0 ≤ (x3_1 : Int) := of_decide_eq_true (by first | (with_reducible assumption) | assumption)
         have q4 : x3_1 < (a0.size : Int) := of_decide_eq_true (by first | (with_reducible assumption) | assumption)
         have hx4 := bt_at a0 x3_1
         replace p4 := eq_true p4
         replace q4 := eq_true q4
         go_wp2
         go_roundg k1
         case measure => have := HK1.out; omega
         case rel => exact ⟨(wrap64 (x3_1 + 1)), (by first | rfl | (simp; done) | (simp [*]; done) | (simp <;> omega) | rw [u32_tmod]), H', ⟨by have := HK1.out; omega⟩, by repeat (first | exact Drawn0.refl _ | apply Drawn0.step)⟩
        ·rw [if_neg c19] at H
         have c19b0 : ((bt a0 x3_1) == 95) = false := beq_eq_false_iff_ne.mpr c19
         have c19b1 : ((bt a0 x3_1) != 95) = true := bne_iff_ne.mpr c19
         by_cases c20 : x3_1 > 0
         ·rw [if_pos c20] at H
          have c20b0 : decide (0 < x3_1) = true := decide_eq_true c20
          clear c20
          by_cases c21 : (bt a0 x3_1) ≥ 48
          ·rw [if_pos c21] at H
           have c21b0 : decide (48 ≤ (bt a0 x3_1)) = true := decide_eq_true c21
           clear c21
           by_cases c22 : (bt a0 x3_1) ≤ 57
           ·rw [if_pos c22] at H
            have c22b0 : decide ((bt a0 x3_1) ≤ 57) = true := decide_eq_true c22
            clear c22
            have H' := Aside0.mk H
            clear H
            have p4 : 0 ≤ (x3_1 : Int) := of_decide_eq_true (by first | (with_reducible assumption) | assumption)
            have q4 : x3_1 < (a0.size : Int) := of_decide_eq_true (by first | (with_reducible assumption) | assumption)
            have hx4 := bt_at a0 x3_1
            replace p4 := eq_true p4
            replace q4 := eq_true q4
            go_wp2
            go_roundg k1
            case measure => have := HK1.out; omega
            case rel => exact ⟨(wrap64 (x3_1 + 1)), (by first | rfl | (simp; done) | (simp [*]; done) | (simp <;> omega) | rw [u32_tmod]), H', ⟨by have := HK1.out; omega⟩, by repeat (first | exact Drawn0.refl _ | apply Drawn0.step)⟩
           ·rw [if_neg c22] at H
            have c22b0 : decide ((bt a0 x3_1) ≤ 57) = false := decide_eq_false c22
            clear c22
            obtain rfl := Option.some.inj H
            have p4 : 0 ≤ (x3_1 : Int) := of_decide_eq_true (by first | (with_reducible assumption) | assumption)
            have q4 : x3_1 < (a0.size : Int) := of_decide_eq_true (by first | (with_reducible assumption) | assumption)
            have hx4 := bt_at a0 x3_1
            replace p4 := eq_true p4
            replace q4 := eq_true q4
            go_wp2
            go_ret
            exact ⟨by first | rfl | (simp; done) | (simp [*]; done) | (simp <;> omega) | rw [u32_tmod], by repeat (first | exact Drawn0.refl _ | apply Drawn0.step)⟩
          ·rw [if_neg c21] at H
           have c21b0 : decide (48 ≤ (bt a0 x3_1)) = false := decide_eq_false c21
           clear c21
           obtain rfl := Option.some.inj H
           have p4 : 0 ≤ (x3_1 : Int) := of_decide_eq_true (by first | (with_reducible assumption) | assumption)
           have q4 : x3_1 < (a0.size : Int) := of_decide_eq_true (by first | (with_reducible assumption) | assumption)
           have hx4 := bt_at a0 x3_1
           replace p4 := eq_true p4
           replace q4 := eq_true q4
           go_wp2
           go_ret
           exact ⟨by first | rfl | (simp; done) | (simp [*]; done) | (simp <;> omega) | rw [u32_tmod], by repeat (first | exact Drawn0.refl _ | apply Drawn0.step)⟩
         ·rw [if_neg c20] at H
          have c20b0 : decide (0 < x3_1) = false := decide_eq_false c20
          clear c20
          obtain rfl := Option.some.inj H
          have p4 : 0 ≤ (x3_1 : Int) := of_decide_eq_true (by first | (with_reducible assumption) | assumption)
          have q4 : x3_1 < (a0.size : Int) := of_decide_eq_true (by first | (with_reducible assumption) | assumption)
          have hx4 := bt_at a0 x3_1
          replace p4 := eq_true p4
          replace q4 := eq_true q4
          go_wp2
          go_ret
          exact ⟨by first | rfl | (simp; done) | (simp [*]; done) | (simp <;> omega) | rw [u32_tmod], by repeat (first | exact Drawn0.refl _ | apply Drawn0.step)⟩
      ·rw [if_neg c17] at H
       have c17b0 : decide (65 ≤ (bt a0 x3_1)) = false := decide_eq_false c17
       clear c17
       by_cases c23 : (bt a0 x3_1) = 95
       ·rw [if_pos c23] at H
        have c23b0 : ((bt a0 x3_1) == 95) = true := beq_iff_eq.mpr c23
        have c23b1 : ((bt a0 x3_1) != 95) = false := bne_eq_false_iff_eq.mpr c23
        clear c23
        have H' := Aside0.mk H
        clear H
        have p4 : 0 ≤ (x3_1 : Int) := of_decide_eq_true (by first | (with_reducible assumption) | assumption)
        have q4 : x3_1 < (a0.size : Int) := of_decide_eq_true (by first | (with_reducible assumption) | assumption)
        have hx4 := bt_at a0 x3_1
        replace p4 := eq_true p4
        replace q4 := eq_true q4
        go_wp2
        go_roundg k1
        case measure => have := HK1.out; omega
        case rel => exact ⟨(wrap64 (x3_1 + 1)), (by first | rfl | (simp; done) | (simp [*]; done) | (simp <;> omega) | rw [u32_tmod]), H', ⟨by have := HK1.out; omega⟩, by repeat (first | exact Drawn0.refl _ | apply Drawn0.step)⟩
       ·rw [if_neg c23] at H
        have c23b0 : ((bt a0 x3_1) == 95) = false := beq_eq_false_iff_ne.mpr c23
        have c23b1 : ((bt a0 x3_1) != 95) = true := bne_iff_ne.mpr c23
        by_cases c24 : x3_1 > 0
        ·rw [if_pos c24] at H
         have c24b0 : decide (0 < x3_1) = true := decide_eq_true c24
         clear c24
         by_cases c25 : (bt a0 x3_1) ≥ 48
         ·rw [if_pos c25] at H
          have c25b0 : decide (48 ≤ (bt a0 x3_1)) = true := decide_eq_true c25
          clear c25
          by_cases c26 : (bt a0 x3_1) ≤ 57
          ·rw [if_pos c26] at H
           have c26b0 : decide ((bt a0 x3_1) ≤ 57) = true := decide_eq_true c26
           clear c26
           have H' := Aside0.mk H
           clear H
           have p4 : 0 ≤ (x3_1 : Int) := of_decide_eq_true (by first | (with_reducible assumption) | assumption)
           have q4 : x3_1 < (a0.size : Int) := of_decide_eq_true (by first | (with_reducible assumption) | assumption)
           have hx4 := bt_at a0 x3_1
           replace p4 := eq_true p4
           replace q4 := eq_true q4
           go_wp2
           go_roundg k1
           case measure => have := HK1.out; omega
           case rel => exact ⟨(wrap64 (x3_1 + 1)), (by first | rfl | (simp; done) | (simp [*]; done) | (simp <;> omega) | rw [u32_tmod]), H', ⟨by have := HK1.out; omega⟩, by repeat (first | exact Drawn0.refl _ | apply Drawn0.step)⟩
          ·rw [if_neg c26] at H
           have c26b0 : decide ((bt a0 x3_1) ≤ 57) = false := decide_eq_false c26
           clear c26
           obtain rfl := Option.some.inj H
           have p4 : 0 ≤ (x3_1 : Int) := of_decide_eq_true (by first | (with_reducible assumption) | assumption)
           have q4 : x3_1 < (a0.size : Int) := of_decide_eq_true (by first | (with_reducible assumption) | assumption)
           have hx4 := bt_at a0 x3_1
           replace p4 := eq_true p4
           replace q4 := eq_true q4
           go_wp2
           go_ret
           exact ⟨by first | rfl | (simp; done) | (simp [*]; done) | (simp <;> omega) | rw [u32_tmod], by repeat (first | exact Drawn0.refl _ | apply Drawn0.step)⟩
         ·rw [if_neg c25] at H
          have c25b0 : decide (48 ≤ (bt a0 x3_1)) = false := decide_eq_false c25
          clear c25
          obtain rfl := Option.some.inj H
          have p4 : 0 ≤ (x3_1 : Int) := of_decide_eq_true (by first | (with_reducible assumption) | assumption)
          have q4 : x3_1 < (a0.size : Int) := of_decide_eq_true (by first | (with_reducible assumption) | assumption)
          have hx4 := bt_at a0 x3_1
          replace p4 := eq_true p4
          replace q4 := eq_true q4
          go_wp2
          go_ret
          exact ⟨by first | rfl | (simp; done) | (simp [*]; done) | (simp <;> omega) | rw [u32_tmod], by repeat (first | exact Drawn0.refl _ | apply Drawn0.step)⟩
        ·rw [if_neg c24] at H
         have c24b0 : decide (0 < x3_1) = false := decide_eq_false c24
         clear c24
         obtain rfl := Option.some.inj H
         have p4 : 0 ≤ (x3_1 : Int) := of_decide_eq_true (by first | (with_reducible assumption) | assumption)
         have q4 : x3_1 < (a0.size : Int) := of_decide_eq_true (by first | (with_reducible assumption) | assumption)
         have hx4 := bt_at a0 x3_1
         replace p4 := eq_true p4
         replace q4 := eq_true q4
         go_wp2
         go_ret
         exact ⟨by first | rfl | (simp; done) | (simp [*]; done) | (simp <;> omega) | rw [u32_tmod], by repeat (first | exact Drawn0.refl _ | apply Drawn0.step)⟩
    ·rw [if_neg c3] at H
     exact absurd H (by simp)
   ·rw [if_neg c2] at H
    have c2b0 : decide (x3_1 < (a0.size : Int)) = false := decide_eq_false c2
    clear c2
    by_cases c27 : (a0.size : Int) ≥ 1
    ·rw [if_pos c27] at H
     have c27b0 : decide (1 ≤ (a0.size : Int)) = true := decide_eq_true c27
     have c27b1 : decide (1 ≤ a0.size) = true := decide_eq_true (by omega)
     clear c27
     obtain rfl := Option.some.inj H
     go_wp2
     go_ret
     exact ⟨by first | rfl | (simp; done) | (simp [*]; done) | (simp <;> omega) | rw [u32_tmod], by repeat (first | exact Drawn0.refl _ | apply Drawn0.step)⟩
    ·rw [if_neg c27] at H
     have c27b0 : decide (1 ≤ (a0.size : Int)) = false := decide_eq_false c27
     have c27b1 : decide (1 ≤ a0.size) = false := decide_eq_false (by omega)
     clear c27
     obtain rfl := Option.some.inj H
     go_wp2
     go_ret
     exact ⟨by first | rfl | (simp; done) | (simp [*]; done) | (simp <;> omega) | rw [u32_tmod], by repeat (first | exact Drawn0.refl _ | apply Drawn0.step)⟩
def token_Kinds.good (k : Nat) (l0 : List ByteArray) : Bool := decide (2 ≤ l0.length) && decide (l0.length ≤ 1024) && (rdOf ByteArray.empty l0 0).toList == [101, 110, 100] && (rdOf ByteArray.empty l0 1).toList == [101, 114, 114, 111, 114] && l0.all (fun s => decide (s.size ≤ 64) && token_named.f k s == some true) && decide (l0.map (·.data.toList)).Nodup
def token_Kinds.f (k : Nat) (l0 : List ByteArray) : Option (Int) := if token_Kinds.good k l0 = true then some 0 else none
theorem token_Kinds.mono : ∀ a0 k, LeO (token_Kinds.f k a0) (token_Kinds.f (k + 1) a0) := by
 intro a0 k r h
 unfold token_Kinds.f at h ⊢
 by_cases c : token_Kinds.good k a0 = true
 ·rw [if_pos c] at h
  rw [if_pos ?_]
  ·exact h
  ·simp only [token_Kinds.good, Bool.and_eq_true, List.all_eq_true, beq_iff_eq, decide_eq_true_eq] at c ⊢
   exact ⟨⟨c.1.1, fun x hx => ⟨(c.1.2 x hx).1, token_named.mono x k _ (c.1.2 x hx).2⟩⟩, c.2⟩
 ·rw [if_neg c] at h
  cases h
theorem token_Kinds.law9 : Maps.Keyed Try.prog 9 := Maps.string_keyed Try.underlying9
def token_Kinds.met (l : List ByteArray) : DataW Unit := Maps.setOf (.lit (.bool true)) (l.map fun s => Lit.string s.data.toList)
theorem token_Kinds.fresh (l : List ByteArray) (s : ByteArray) (h : s.data.toList ∉ l.map (·.data.toList)) : Maps.has (token_Kinds.met l) (.string s.data.toList) = false := by
 unfold token_Kinds.met
 rw [Maps.has_setOf _ _ _ (fun y hy => by obtain ⟨_, _, rfl⟩ := List.mem_map.1 hy; trivial)]
 rw [List.any_eq_false]
 intro x hx
 obtain ⟨s', hs', rfl⟩ := List.mem_map.1 hx
 intro e
 apply h
 have e' : s'.data.toList = s.data.toList := by simpa [Lit.sameKey] using e
 exact List.mem_map.2 ⟨s', hs', e'⟩
set_option maxRecDepth 100000 in
theorem token_Kinds.absent {w : World} {b n : Nat} {l : List ByteArray} (h : w.ownsMap Try.prog 9 (plainElem Try.prog 4) b n (token_Kinds.met l)) (s : ByteArray) (hs : s.size ≤ 64) (hn : s.data.toList ∉ l.map (·.data.toList)) :
  (Instr.lookup 93 (.map (some b)) (.string s) false).run Try.prog w = .ok (.bool false) w := by
 obtain ⟨v, ps, hrun, hv⟩ := h.lookup token_Kinds.law9 Try.underlying93 (z := .bool false) (by kernel_rfl) (zd := .lit (.bool false)) (zp := []) (plainElem_bool Try.underlying4 false) (key := .string s) (kl := .string s.data.toList) (Go.WideMaps.keyOf_string_mk Try.underlying9 (by unfold maxLen; omega))
 rw [Maps.atKey_of_not_has (token_Kinds.fresh l s hn)] at hv
 have e : v = .bool false := by
  unfold plainElem at hv
  rw [Try.underlying4] at hv
  cases v <;> simp at hv
  rename_i x
  rw [hv.1]
 rw [hrun, e]
theorem token_Kinds.snoc (l : List ByteArray) (s : ByteArray) : token_Kinds.met (l ++ [s]) = (token_Kinds.met l).put (.string s.data.toList) (.lit (.bool true)) := by
 unfold token_Kinds.met
 rw [List.map_append, List.map_cons, List.map_nil, Maps.setOf_snoc]
set_option maxHeartbeats 8000000 in
set_option maxRecDepth 100000 in
theorem token_Kinds.calls (k : Nat) (A0 : Option Addr) (c0 : Nat) (l0 : List ByteArray) (r : Int) (w : World) (hr0 : Kd.C Kd.string w A0 l0.length l0) (hc0 : l0.length ≤ c0) (h : token_Kinds.f k l0 = some r) :
  Calls Try.prog 62 #[.slice A0 l0.length c0] w fun e w' => e = .returned (.int .i64 r) ∧ Below w.heap.size w w' := by
 have HR0 := Aside0.mk hr0
 have HC0 := Aside0.mk hc0
 clear hr0 hc0
 unfold token_Kinds.f at h
 by_cases cg : token_Kinds.good k l0 = true
 ·rw [if_pos cg] at h
  obtain rfl := Option.some.inj h
  clear h
  simp only [token_Kinds.good, Bool.and_eq_true, List.all_eq_true, beq_iff_eq, decide_eq_true_eq] at cg
  obtain ⟨⟨⟨⟨⟨g1, g2⟩, g3⟩, g4⟩, g5⟩, g6⟩ := cg
  have G5 := Aside0.mk g5
  have G6 := Aside0.mk g6
  have HL := Aside0.mk g2
  clear g5 g6
  have d1 : decide ((l0.length : Int) < 2) = false := decide_eq_false (by omega)
  have d1' : decide (l0.length < 2) = false := decide_eq_false (by omega)
  have d2 : decide ((1024 : Int) < (l0.length : Int)) = false := decide_eq_false (by omega)
  have d2' : decide (1024 < l0.length) = false := decide_eq_false (by omega)
  have d3 : ((rdOf ByteArray.empty l0 0).toList == [101, 110, 100]) = true := beq_iff_eq.mpr g3
  have d4 : ((rdOf ByteArray.empty l0 1).toList == [101, 114, 114, 111, 114]) = true := beq_iff_eq.mpr g4
  have d5 : (0 : Int) < (l0.length : Int) := by omega
  have d6 : (1 : Int) < (l0.length : Int) := by omega
  have d5' : 0 < l0.length := by omega
  have d6' : 1 < l0.length := by omega
  obtain ⟨ad0, e0, hx0⟩ := Kd.at_string HR0.out 0 (by omega) d5
  obtain ⟨ad1, e1, hx1⟩ := Kd.at_string HR0.out 1 (by omega) d6
  cases e0
  obtain rfl := Option.some.inj e1
  have hy0 : w.cell? ad0 = some (.string (rdOf ByteArray.empty l0 0)) := (by cases ad0; rfl : ad0.add (Int.toNat 0) = ad0) ▸ hx0
  have hy1 : w.cell? ⟨ad0.block, ad0.off + 1, none⟩ = some (.string (rdOf ByteArray.empty l0 1)) := (by cases ad0; rfl : ad0.add (Int.toNat 1) = ⟨ad0.block, ad0.off + 1, none⟩) ▸ hx1
  clear e1 g1 g2 g3 g4 hx0 hx1
  have hmm := @run_makeMap Try.prog
  go_enter Try.func62, Try.ntmps62
  go_wp2
  clear d1 d1' d2 d2' d3 d4 d5 d6 d5' d6' hy0 hy1 hmm
  go_loopw [29] (fun i wr => ∃ x : Int, 0 ≤ x ∧ x ≤ (l0.length : Int) ∧ i = .int .i64 x ∧ Aside0 (wr.ownsMap Try.prog 9 (plainElem Try.prog 4) w.heap.size x.toNat (token_Kinds.met (l0.take x.toNat))) ∧ Aside0 (Below w.heap.size w wr)) (fun i _ => l0.length - (intOf i).toNat)
  case atStart => exact ⟨0, by omega, by omega, rfl, ⟨World.ownsMap_made _ _ _ _⟩, ⟨(Below.refl _ _).alloc (Nat.le_refl _) _⟩⟩
  case round =>
   obtain ⟨x, hx0, hx1, rfl, hM, hB⟩ := hrel
   by_cases hlt : x < (l0.length : Int)
   ·obtain ⟨ad, e0, hc⟩ := Kd.at_string (Kd.C_below HR0.out hB.out) x hx0 hlt
    obtain rfl := Option.some.inj e0
    clear e0
    obtain ⟨s, hs⟩ : ∃ s, rdOf ByteArray.empty l0 x = s := ⟨_, rfl⟩
    rw [hs] at hc
    have hgs : l0[x.toNat]? = some s := by
     have hl : x.toNat < l0.length := by omega
     rw [← hs]; unfold rdOf; rw [List.getD_eq_getElem?_getD, List.getElem?_eq_getElem hl]; rfl
    have hS := Aside0.mk hgs
    have g := G5.out s (List.mem_of_getElem? hgs)
    have hg1 := Aside0.mk g.1
    have hg2 := Aside0.mk g.2
    have hno : s.data.toList ∉ (l0.take x.toNat).map (·.data.toList) := by
     have hl : x.toNat < l0.length := by omega
     have hnd := G6.out
     intro hm
     have e1 : l0.map (·.data.toList) = (l0.take x.toNat).map (·.data.toList) ++ (l0.drop x.toNat).map (·.data.toList) := by rw [← List.map_append, List.take_append_drop]
     rw [e1, List.nodup_append] at hnd
     have hd : s.data.toList ∈ (l0.drop x.toNat).map (·.data.toList) := List.mem_map.2 ⟨s, List.mem_of_getElem? (i := 0) (by rw [List.getElem?_drop]; exact hgs), rfl⟩
     exact hnd.2.2 _ hm _ hd rfl
    have hlk : ∀ m, (Instr.lookup 93 (.map (some w.heap.size)) (.string s) false).run Try.prog (wr.drewN m) = .ok (.bool false) (wr.drewN m) := fun m => token_Kinds.absent (w := wr.drewN m) hM.out s hg1.out hno
    clear hs hgs g hno
    have hw : wrap64 (x + 1) = x + 1 := by unfold wrap64; have := HC0.out; have := HR0.out.2.1; omega
    have hw := Aside0.mk hw
    have hlb : decide (x < (l0.length : Int)) = true := decide_eq_true hlt
    go_wp2_with (first
     | (go_at_call 86; refine (token_named.calls k s true _ hg2.out).mono ?_; rintro e w1 ⟨rfl, ⟨nd, rfl⟩⟩)
     | (at_mapUpdate; refine wpList_mapUpdate_own _ rfl _ _ _ 93 rfl 9 4 token_Kinds.law9 Try.underlying93 (plainElem (H := Unit) Try.prog 4) w.heap.size x.toNat _ rfl (show (wr.drewN nd).ownsMap _ _ _ _ _ _ from hM.out) (by have := HL.out; unfold maxLen; omega) _ _ _ rfl rfl (Go.WideMaps.keyOf_string_mk Try.underlying9 (by have := hg1.out; unfold maxLen; omega)) _ [] (plainElem_bool Try.underlying4 true) ?_; intro w1 hown1 hgrow1; have hown1 := Aside0.mk hown1; have hgrow1 := Aside0.mk hgrow1))
    go_roundw
    case rel =>
     have e1 : (x + 1).toNat = x.toNat + 1 := by omega
     have e2 : l0.take (x.toNat + 1) = l0.take x.toNat ++ [s] := by rw [List.take_add_one, hS.out]; rfl
     refine ⟨x + 1, by omega, by omega, by rw [hw.out], ⟨?_⟩, ⟨?_⟩⟩
     ·rw [e1, e2, token_Kinds.snoc]; exact hown1.out
     ·exact (pw_below_drewN hB.out nd).grown hgrow1.out (show w.heap.size ≤ wr.heap.size from hB.out.size) (fun k hk => Nat.le_of_eq (Option.some.inj hk))
    case measure => simp [intOf]; omega
   ·go_wp2
    go_ret
    exact ⟨rfl, hB.out⟩
 ·rw [if_neg cg] at h
  cases h
def token_Check.l0 : Nat → List ByteArray → ByteArray → Int → List (S36) → Int → Int → Option (Int × Int)
 | 0, _, _, _, _, _, _ => none
 | k + 1, x0, x1, x8, x17, x18, x19 => if x19 < x18 then (if 0 ≤ x19 then (if x19 < (x17.length : Int) then (if ((rd_T36 x17 x19).f0) < 2 then (some (x19, 71)) else (if ((rd_T36 x17 x19).f0) ≥ (x0.length : Int) then (some (x19, 71)) else (if ((rd_T36 x17 x19).f1) < x8 then (some (x19, 71)) else (if ((rd_T36 x17 x19).f2) < ((rd_T36 x17 x19).f1) then (some (x19, 71)) else (if ((rd_T36 x17 x19).f2) > (x1.size : Int) then (some (x19, 71)) else (token_Check.l0 k x0 x1 ((rd_T36 x17 x19).f2) x17 x18 (wrap64 (x19 + 1)))))))) else (none)) else (none)) else (some (0, 0))
def token_Check.f (k : Nat) (l0 : List ByteArray) (a1 : ByteArray) (l2 : List (S36)) : Option (Int × Int) := (token_Kinds.f k l0).bind fun t441 => (if t441 = 0 then (if (l2.length : Int) > 65536 then (some (65536, 71)) else (token_Check.l0 k l0 a1 0 l2 (l2.length : Int) 0)) else (some (0, 70)))
theorem token_Check.mono_l : ∀ k, (∀ y0 y1 y2 y3 y4 y5, LeO (token_Check.l0 k y0 y1 y2 y3 y4 y5) (token_Check.l0 (k + 1) y0 y1 y2 y3 y4 y5))
 | 0 => fun _ _ _ _ _ _ r h => by simp [token_Check.l0] at h
 | k + 1 => by
  have ih0 := token_Check.mono_l k
  ·intro y0 y1 y2 y3 y4 y5
   unfold token_Check.l0
   repeat' first
   | (with_reducible exact ih0 _ _ _ _ _ _)
   | (with_reducible exact token_Kinds.mono _ _)
   | (with_reducible exact LeO.refl _)
   | (with_reducible exact LeO.none _)
   | (with_reducible refine LeO.ite ?_ ?_)
   | (with_reducible refine LeO.bind ?_ (fun _ => ?_))
   | exact ih0 _ _ _ _ _ _
   | exact token_Kinds.mono _ _
   | exact LeO.none _
   | refine LeO.ite ?_ ?_
   | refine LeO.bind ?_ (fun _ => ?_)
theorem token_Check.mono : ∀ a0 a1 a2 k, LeO (token_Check.f k a0 a1 a2) (token_Check.f (k + 1) a0 a1 a2) := by
 intro a0 a1 a2 k
 have ih0 := token_Check.mono_l k
 unfold token_Check.f
 repeat' first
   | (with_reducible exact ih0 _ _ _ _ _ _)
   | (with_reducible exact token_Kinds.mono _ _)
   | (with_reducible exact LeO.refl _)
   | (with_reducible exact LeO.none _)
   | (with_reducible refine LeO.ite ?_ ?_)
   | (with_reducible refine LeO.bind ?_ (fun _ => ?_))
   | exact ih0 _ _ _ _ _ _
   | exact token_Kinds.mono _ _
   | exact LeO.none _
   | refine LeO.ite ?_ ?_
   | refine LeO.bind ?_ (fun _ => ?_)
set_option maxHeartbeats 8000000 in
set_option maxRecDepth 100000 in
theorem token_Check.calls (k : Nat) (A0 : Option Addr) (c0 : Nat) (l0 : List ByteArray) (a1 : ByteArray) (A2 : Option Addr) (c2 : Nat) (l2 : List (S36)) (r1 : Int) (r2 : Int) (w : World) (hr0 : Kd.C Kd.string w A0 l0.length l0) (hc0 : l0.length ≤ c0) (hr2 : Kd.C k36 w A2 l2.length l2) (hc2 : l2.length ≤ c2) (h : token_Check.f k l0 a1 l2 = some (r1, r2)) :
  Calls Try.prog 33 #[.slice A0 l0.length c0, .string a1, .slice A2 l2.length c2] w fun e w' => e = .returned (.tuple #[.int .i64 r1, .int .i64 r2]) ∧ Below w.heap.size w w' := by
 have hu36 := Try.underlying36
 have HR0 := Aside0.mk hr0
 have HC0 := Aside0.mk hc0
 clear hr0 hc0
 have HR2 := Aside0.mk hr2
 have HC2 := Aside0.mk hc2
 clear hr2 hc2
 have HB := Aside0.mk (Below.refl w.heap.size w)
 have H : ((token_Kinds.f k l0).bind fun t441 => (if t441 = 0 then (if (l2.length : Int) > 65536 then (some (65536, 71)) else (token_Check.l0 k l0 a1 0 l2 (l2.length : Int) 0)) else (some (0, 70)))) = some (r1, r2) := h
 clear h
 replace H := Option.bind_eq_some_iff.mp H
 obtain ⟨t441, A40, H⟩ := H
 replace H : (if t441 = 0 then (if (l2.length : Int) > 65536 then (some (65536, 71)) else (token_Check.l0 k l0 a1 0 l2 (l2.length : Int) 0)) else (some (0, 70))) = some (r1, r2) := H
 have A4 := Aside0.mk A40
 clear A40
 by_cases c5 : t441 = 0
 ·rw [if_pos c5] at H
  have c5b0 : (t441 == 0) = true := beq_iff_eq.mpr c5
  have c5b1 : (t441 != 0) = false := bne_eq_false_iff_eq.mpr c5
  clear c5
  by_cases c6 : (l2.length : Int) > 65536
  ·rw [if_pos c6] at H
   have c6b0 : decide (65536 < (l2.length : Int)) = true := decide_eq_true c6
   have c6b1 : decide (65536 < l2.length) = true := decide_eq_true (by omega)
   clear c6
   simp only [Option.some.injEq, Prod.mk.injEq] at H
   obtain ⟨rfl, rfl⟩ := H
   go_enter Try.func33, Try.ntmps33
   go_wp2_with (first | ((with_reducible refine gate_callee (f := 62) rfl ?_); refine goesL_ (some 12) rfl rfl Try.func62 (by kernel_rfl) rfl #[.slice A0 l0.length c0] rfl (by (try simp only [List.map_toArray, List.map_cons, List.map_nil]); first | done | rfl | (simp only [List.length_drop, List.length_take]; rfl)) ?_; (with_reducible refine (token_Kinds.calls k _ _ l0 t441 _ ?side1 ?side2 A4.out).mono ?_); (case side1 => repeat (first | exact HR0.out | (with_reducible refine Kd.C_alloc ?_ _) | (with_reducible refine Kd.C_drewN ?_ _) | (with_reducible refine Kd.C_drew ?_))); (case side2 => exact HC0.out); rintro e w7 ⟨rfl, hb⟩; refine ⟨_, rfl, ?_⟩; have n0_ := Aside0.mk (below_step (by repeat (first | (with_reducible first | exact HB.out | apply below_alloc | apply pw_below_drewN | apply below_drew1) | exact HB.out)) hb); clear HB; have HB := n0_; clear n0_; (try clear hb); (try clear hb2); (try clear hk); (try clear hi)))
   go_ret2
   exact ⟨by first | rfl | (simp [errW_none, errW_some] <;> rfl) | (simp [*, errW_none, errW_some] <;> rfl), by repeat (first | (with_reducible first | exact HB.out | apply below_alloc | apply pw_below_drewN | apply below_drew1) | exact HB.out)⟩
  ·rw [if_neg c6] at H
   have c6b0 : decide (65536 < (l2.length : Int)) = false := decide_eq_false c6
   have c6b1 : decide (65536 < l2.length) = false := decide_eq_false (by omega)
   clear c6
   have H' := Aside0.mk H
   clear H
   go_enter Try.func33, Try.ntmps33
   go_wp2_with (first | ((with_reducible refine gate_callee (f := 62) rfl ?_); refine goesL_ (some 12) rfl rfl Try.func62 (by kernel_rfl) rfl #[.slice A0 l0.length c0] rfl (by (try simp only [List.map_toArray, List.map_cons, List.map_nil]); first | done | rfl | (simp only [List.length_drop, List.length_take]; rfl)) ?_; (with_reducible refine (token_Kinds.calls k _ _ l0 t441 _ ?side1 ?side2 A4.out).mono ?_); (case side1 => repeat (first | exact HR0.out | (with_reducible refine Kd.C_alloc ?_ _) | (with_reducible refine Kd.C_drewN ?_ _) | (with_reducible refine Kd.C_drew ?_))); (case side2 => exact HC0.out); rintro e w8 ⟨rfl, hb⟩; refine ⟨_, rfl, ?_⟩; have n0_ := Aside0.mk (below_step (by repeat (first | (with_reducible first | exact HB.out | apply below_alloc | apply pw_below_drewN | apply below_drew1) | exact HB.out)) hb); clear HB; have HB := n0_; clear n0_; (try clear hb); (try clear hb2); (try clear hk); (try clear hi)))
   go_loopg [8, 19] k (fun kq v8 v19 w' => ∃ (x8_1 : Int) (x19_1 : Int), v8 = .int .i64 x8_1 ∧ v19 = .int .i64 x19_1 ∧ Aside0 (token_Check.l0 kq l0 a1 x8_1 l2 (l2.length : Int) x19_1 = some (r1, r2)) ∧ Aside0 (kq ≤ k) ∧ Aside0 (Below w.heap.size w w'))
   case atStart => exact ⟨(0), (0), (by first | rfl | (simp; done) | (simp [*]; done) | (simp <;> omega) | rw [u32_tmod]), (by first | rfl | (simp; done) | (simp [*]; done) | (simp <;> omega) | rw [u32_tmod]), H', ⟨Nat.le_refl _⟩, ⟨by repeat (first | (with_reducible first | exact HB.out | apply below_alloc | apply pw_below_drewN | apply below_drew1) | exact HB.out)⟩⟩
   case round =>
    clear H'
    try clear c2
    try clear p2
    try clear c3
    try clear c5
    try clear c5b0
    try clear c5b1
    try clear c6
    try clear c6b0
    try clear c6b1
    obtain ⟨x8_1, x19_1, rfl, rfl, HA, HK1, HB⟩ := hrel
    cases gk with
    | zero => exact absurd HA.out (by simp [token_Check.l0])
    | succ k1 =>
     have H := HA.out
     clear HA
     simp only [token_Check.l0] at H
     by_cases c9 : x19_1 < (l2.length : Int)
     ·rw [if_pos c9] at H
      have c9b0 : decide (x19_1 < (l2.length : Int)) = true := decide_eq_true c9
      clear c9
      by_cases c10 : 0 ≤ x19_1
      ·rw [if_pos c10] at H
       have c10b0 : decide (0 ≤ x19_1) = true := decide_eq_true c10
       clear c10
       by_cases c11 : x19_1 < (l2.length : Int)
       ·rw [if_pos c11] at H
        have c11b0 : decide (x19_1 < (l2.length : Int)) = true := decide_eq_true c11
        clear c11
        by_cases c12 : ((rd_T36 l2 x19_1).f0) < 2
        ·rw [if_pos c12] at H
         have c12b0 : decide (((rd_T36 l2 x19_1).f0) < 2) = true := decide_eq_true c12
         clear c12
         simp only [Option.some.injEq, Prod.mk.injEq] at H
         obtain ⟨rfl, rfl⟩ := H
         have p442 : 0 ≤ (x19_1 : Int) := of_decide_eq_true (by first | (with_reducible assumption) | assumption)
         have q442 : x19_1 < (l2.length : Int) := of_decide_eq_true (by first | (with_reducible assumption) | assumption)
         obtain ⟨ad442, e442, hx442_0, hx442_1, hx442_2⟩ := at_T36 HR2.out x19_1 p442 q442
         cases e442
         replace hx442_0 := (HB.out.cell (World.block_lt_of_cell? w _ hx442_0)).trans hx442_0
         replace hx442_1 := (HB.out.cell (World.block_lt_of_cell? w _ hx442_1)).trans hx442_1
         replace hx442_2 := (HB.out.cell (World.block_lt_of_cell? w _ hx442_2)).trans hx442_2
         replace p442 := eq_true p442
         replace q442 := eq_true q442
         go_wp2_with (first | ((with_reducible refine gate_dst (N := 10) rfl ?_); (try (refine gate_guard (by rfl) ?_; dsimp only)); refine box_event ?hg (N := 10) ?hd (cs := #[.int .i64 0, .int .i64 0, .int .i64 0]) (t := 36) ?hr ?_; (case hd => rfl); (case hg => rfl); (case hr => first | (go_simp; done) | (go_simp; rfl)); intro gb443 hg w13 hbox hb; have n0_ := Aside0.mk (below_step (by repeat (first | (with_reducible first | exact HB.out | apply below_alloc | apply pw_below_drewN | apply below_drew1) | exact HB.out)) hb); have n1_ := Aside0.mk (hbox); have n2_ := Aside0.mk ((by rw [hg]; exact (below_size (by repeat (first | (with_reducible first | exact HB.out | apply below_alloc | apply pw_below_drewN | apply below_drew1) | exact HB.out))) : w.heap.size ≤ gb443)); have n3_ := Aside0.mk ((by rw [hg]; exact (below_size (by repeat (first | (with_reducible first | exact HB.out | apply below_alloc | apply pw_below_drewN | apply below_drew1) | exact HB.out))) : w.heap.size ≤ gb443)); clear HB; have HB := n0_; have BK443 := n1_; have GW443 := n2_; have GE443 := n3_; clear n0_ n1_ n2_ n3_; clear hb hbox hg; have hcz14_0 : w13.cell? ⟨gb443, 0, none⟩ = some (.int .i64 0) := (blk_cell BK443.out 0).trans rfl; have hcz14_1 : w13.cell? ⟨gb443, 1, none⟩ = some (.int .i64 0) := (blk_cell BK443.out 1).trans rfl; have hcz14_2 : w13.cell? ⟨gb443, 2, none⟩ = some (.int .i64 0) := (blk_cell BK443.out 2).trans rfl; have hfz14_0 := blk_frozen BK443.out 0; have hfz14_1 := blk_frozen BK443.out 1; have hfz14_2 := blk_frozen BK443.out 2))
         go_ret2
         exact ⟨by first | rfl | (simp [errW_none, errW_some] <;> rfl) | (simp [*, errW_none, errW_some] <;> rfl), by repeat (first | (with_reducible first | exact HB.out | apply below_alloc | apply pw_below_drewN | apply below_drew1 | refine below_set ?_ GE443.out) | exact HB.out)⟩
        ·rw [if_neg c12] at H
         have c12b0 : decide (((rd_T36 l2 x19_1).f0) < 2) = false := decide_eq_false c12
         clear c12
         by_cases c15 : ((rd_T36 l2 x19_1).f0) ≥ (l0.length : Int)
         ·rw [if_pos c15] at H
          have c15b0 : decide ((l0.length : Int) ≤ ((rd_T36 l2 x19_1).f0)) = true := decide_eq_true c15
          clear c15
          simp only [Option.some.injEq, Prod.mk.injEq] at H
          obtain ⟨rfl, rfl⟩ := H
          have p442 : 0 ≤ (x19_1 : Int) := of_decide_eq_true (by first | (with_reducible assumption) | assumption)
          have q442 : x19_1 < (l2.length : Int) := of_decide_eq_true (by first | (with_reducible assumption) | assumption)
          obtain ⟨ad442, e442, hx442_0, hx442_1, hx442_2⟩ := at_T36 HR2.out x19_1 p442 q442
          cases e442
          replace hx442_0 := (HB.out.cell (World.block_lt_of_cell? w _ hx442_0)).trans hx442_0
          replace hx442_1 := (HB.out.cell (World.block_lt_of_cell? w _ hx442_1)).trans hx442_1
          replace hx442_2 := (HB.out.cell (World.block_lt_of_cell? w _ hx442_2)).trans hx442_2
          replace p442 := eq_true p442
          replace q442 := eq_true q442
          go_wp2_with (first | ((with_reducible refine gate_dst (N := 10) rfl ?_); (try (refine gate_guard (by rfl) ?_; dsimp only)); refine box_event ?hg (N := 10) ?hd (cs := #[.int .i64 0, .int .i64 0, .int .i64 0]) (t := 36) ?hr ?_; (case hd => rfl); (case hg => rfl); (case hr => first | (go_simp; done) | (go_simp; rfl)); intro gb443 hg w16 hbox hb; have n0_ := Aside0.mk (below_step (by repeat (first | (with_reducible first | exact HB.out | apply below_alloc | apply pw_below_drewN | apply below_drew1) | exact HB.out)) hb); have n1_ := Aside0.mk (hbox); have n2_ := Aside0.mk ((by rw [hg]; exact (below_size (by repeat (first | (with_reducible first | exact HB.out | apply below_alloc | apply pw_below_drewN | apply below_drew1) | exact HB.out))) : w.heap.size ≤ gb443)); have n3_ := Aside0.mk ((by rw [hg]; exact (below_size (by repeat (first | (with_reducible first | exact HB.out | apply below_alloc | apply pw_below_drewN | apply below_drew1) | exact HB.out))) : w.heap.size ≤ gb443)); clear HB; have HB := n0_; have BK443 := n1_; have GW443 := n2_; have GE443 := n3_; clear n0_ n1_ n2_ n3_; clear hb hbox hg; have hcz17_0 : w16.cell? ⟨gb443, 0, none⟩ = some (.int .i64 0) := (blk_cell BK443.out 0).trans rfl; have hcz17_1 : w16.cell? ⟨gb443, 1, none⟩ = some (.int .i64 0) := (blk_cell BK443.out 1).trans rfl; have hcz17_2 : w16.cell? ⟨gb443, 2, none⟩ = some (.int .i64 0) := (blk_cell BK443.out 2).trans rfl; have hfz17_0 := blk_frozen BK443.out 0; have hfz17_1 := blk_frozen BK443.out 1; have hfz17_2 := blk_frozen BK443.out 2))
          go_ret2
          exact ⟨by first | rfl | (simp [errW_none, errW_some] <;> rfl) | (simp [*, errW_none, errW_some] <;> rfl), by repeat (first | (with_reducible first | exact HB.out | apply below_alloc | apply pw_below_drewN | apply below_drew1 | refine below_set ?_ GE443.out) | exact HB.out)⟩
         ·rw [if_neg c15] at H
          have c15b0 : decide ((l0.length : Int) ≤ ((rd_T36 l2 x19_1).f0)) = false := decide_eq_false c15
          clear c15
          by_cases c18 : ((rd_T36 l2 x19_1).f1) < x8_1
          ·rw [if_pos c18] at H
           have c18b0 : decide (((rd_T36 l2 x19_1).f1) < x8_1) = true := decide_eq_true c18
           clear c18
           simp only [Option.some.injEq, Prod.mk.injEq] at H
           obtain ⟨rfl, rfl⟩ := H
           have p442 : 0 ≤ (x19_1 : Int) := of_decide_eq_true (by first | (with_reducible assumption) | assumption)
           have q442 : x19_1 < (l2.length : Int) := of_decide_eq_true (by first | (with_reducible assumption) | assumption)
           obtain ⟨ad442, e442, hx442_0, hx442_1, hx442_2⟩ := at_T36 HR2.out x19_1 p442 q442
           cases e442
           replace hx442_0 := (HB.out.cell (World.block_lt_of_cell? w _ hx442_0)).trans hx442_0
           replace hx442_1 := (HB.out.cell (World.block_lt_of_cell? w _ hx442_1)).trans hx442_1
           replace hx442_2 := (HB.out.cell (World.block_lt_of_cell? w _ hx442_2)).trans hx442_2
           replace p442 := eq_true p442
           replace q442 := eq_true q442
           go_wp2_with (first | ((with_reducible refine gate_dst (N := 10) rfl ?_); (try (refine gate_guard (by rfl) ?_; dsimp only)); refine box_event ?hg (N := 10) ?hd (cs := #[.int .i64 0, .int .i64 0, .int .i64 0]) (t := 36) ?hr ?_; (case hd => rfl); (case hg => rfl); (case hr => first | (go_simp; done) | (go_simp; rfl)); intro gb443 hg w19 hbox hb; have n0_ := Aside0.mk (below_step (by repeat (first | (with_reducible first | exact HB.out | apply below_alloc | apply pw_below_drewN | apply below_drew1) | exact HB.out)) hb); have n1_ := Aside0.mk (hbox); have n2_ := Aside0.mk ((by rw [hg]; exact (below_size (by repeat (first | (with_reducible first | exact HB.out | apply below_alloc | apply pw_below_drewN | apply below_drew1) | exact HB.out))) : w.heap.size ≤ gb443)); have n3_ := Aside0.mk ((by rw [hg]; exact (below_size (by repeat (first | (with_reducible first | exact HB.out | apply below_alloc | apply pw_below_drewN | apply below_drew1) | exact HB.out))) : w.heap.size ≤ gb443)); clear HB; have HB := n0_; have BK443 := n1_; have GW443 := n2_; have GE443 := n3_; clear n0_ n1_ n2_ n3_; clear hb hbox hg; have hcz20_0 : w19.cell? ⟨gb443, 0, none⟩ = some (.int .i64 0) := (blk_cell BK443.out 0).trans rfl; have hcz20_1 : w19.cell? ⟨gb443, 1, none⟩ = some (.int .i64 0) := (blk_cell BK443.out 1).trans rfl; have hcz20_2 : w19.cell? ⟨gb443, 2, none⟩ = some (.int .i64 0) := (blk_cell BK443.out 2).trans rfl; have hfz20_0 := blk_frozen BK443.out 0; have hfz20_1 := blk_frozen BK443.out 1; have hfz20_2 := blk_frozen BK443.out 2))
           go_ret2
           exact ⟨by first | rfl | (simp [errW_none, errW_some] <;> rfl) | (simp [*, errW_none, errW_some] <;> rfl), by repeat (first | (with_reducible first | exact HB.out | apply below_alloc | apply pw_below_drewN | apply below_drew1 | refine below_set ?_ GE443.out) | exact HB.out)⟩
          ·rw [if_neg c18] at H
           have c18b0 : decide (((rd_T36 l2 x19_1).f1) < x8_1) = false := decide_eq_false c18
           clear c18
           by_cases c21 : ((rd_T36 l2 x19_1).f2) < ((rd_T36 l2 x19_1).f1)
           ·rw [if_pos c21] at H
            have c21b0 : decide (((rd_T36 l2 x19_1).f2) < ((rd_T36 l2 x19_1).f1)) = true := decide_eq_true c21
            clear c21
            simp only [Option.some.injEq, Prod.mk.injEq] at H
            obtain ⟨rfl, rfl⟩ := H
            have p442 : 0 ≤ (x19_1 : Int) := of_decide_eq_true (by first | (with_reducible assumption) | assumption)
            have q442 : x19_1 < (l2.length : Int) := of_decide_eq_true (by first | (with_reducible assumption) | assumption)
            obtain ⟨ad442, e442, hx442_0, hx442_1, hx442_2⟩ := at_T36 HR2.out x19_1 p442 q442
            cases e442
            replace hx442_0 := (HB.out.cell (World.block_lt_of_cell? w _ hx442_0)).trans hx442_0
            replace hx442_1 := (HB.out.cell (World.block_lt_of_cell? w _ hx442_1)).trans hx442_1
            replace hx442_2 := (HB.out.cell (World.block_lt_of_cell? w _ hx442_2)).trans hx442_2
            replace p442 := eq_true p442
            replace q442 := eq_true q442
            go_wp2_with (first | ((with_reducible refine gate_dst (N := 10) rfl ?_); (try (refine gate_guard (by rfl) ?_; dsimp only)); refine box_event ?hg (N := 10) ?hd (cs := #[.int .i64 0, .int .i64 0, .int .i64 0]) (t := 36) ?hr ?_; (case hd => rfl); (case hg => rfl); (case hr => first | (go_simp; done) | (go_simp; rfl)); intro gb443 hg w22 hbox hb; have n0_ := Aside0.mk (below_step (by repeat (first | (with_reducible first | exact HB.out | apply below_alloc | apply pw_below_drewN | apply below_drew1) | exact HB.out)) hb); have n1_ := Aside0.mk (hbox); have n2_ := Aside0.mk ((by rw [hg]; exact (below_size (by repeat (first | (with_reducible first | exact HB.out | apply below_alloc | apply pw_below_drewN | apply below_drew1) | exact HB.out))) : w.heap.size ≤ gb443)); have n3_ := Aside0.mk ((by rw [hg]; exact (below_size (by repeat (first | (with_reducible first | exact HB.out | apply below_alloc | apply pw_below_drewN | apply below_drew1) | exact HB.out))) : w.heap.size ≤ gb443)); clear HB; have HB := n0_; have BK443 := n1_; have GW443 := n2_; have GE443 := n3_; clear n0_ n1_ n2_ n3_; clear hb hbox hg; have hcz23_0 : w22.cell? ⟨gb443, 0, none⟩ = some (.int .i64 0) := (blk_cell BK443.out 0).trans rfl; have hcz23_1 : w22.cell? ⟨gb443, 1, none⟩ = some (.int .i64 0) := (blk_cell BK443.out 1).trans rfl; have hcz23_2 : w22.cell? ⟨gb443, 2, none⟩ = some (.int .i64 0) := (blk_cell BK443.out 2).trans rfl; have hfz23_0 := blk_frozen BK443.out 0; have hfz23_1 := blk_frozen BK443.out 1; have hfz23_2 := blk_frozen BK443.out 2))
            go_ret2
            exact ⟨by first | rfl | (simp [errW_none, errW_some] <;> rfl) | (simp [*, errW_none, errW_some] <;> rfl), by repeat (first | (with_reducible first | exact HB.out | apply below_alloc | apply pw_below_drewN | apply below_drew1 | refine below_set ?_ GE443.out) | exact HB.out)⟩
           ·rw [if_neg c21] at H
            have c21b0 : decide (((rd_T36 l2 x19_1).f2) < ((rd_T36 l2 x19_1).f1)) = false := decide_eq_false c21
            clear c21
            by_cases c24 : ((rd_T36 l2 x19_1).f2) > (a1.size : Int)
            ·rw [if_pos c24] at H
             have c24b0 : decide ((a1.size : Int) < ((rd_T36 l2 x19_1).f2)) = true := decide_eq_true c24
             clear c24
             simp only [Option.some.injEq, Prod.mk.injEq] at H
             obtain ⟨rfl, rfl⟩ := H
             have p442 : 0 ≤ (x19_1 : Int) := of_decide_eq_true (by first | (with_reducible assumption) | assumption)
             have q442 : x19_1 < (l2.length : Int) := of_decide_eq_true (by first | (with_reducible assumption) | assumption)
             obtain ⟨ad442, e442, hx442_0, hx442_1, hx442_2⟩ := at_T36 HR2.out x19_1 p442 q442
             cases e442
             replace hx442_0 := (HB.out.cell (World.block_lt_of_cell? w _ hx442_0)).trans hx442_0
             replace hx442_1 := (HB.out.cell (World.block_lt_of_cell? w _ hx442_1)).trans hx442_1
             replace hx442_2 := (HB.out.cell (World.block_lt_of_cell? w _ hx442_2)).trans hx442_2
             replace p442 := eq_true p442
             replace q442 := eq_true q442
             go_wp2_with (first | ((with_reducible refine gate_dst (N := 10) rfl ?_); (try (refine gate_guard (by rfl) ?_; dsimp only)); refine box_event ?hg (N := 10) ?hd (cs := #[.int .i64 0, .int .i64 0, .int .i64 0]) (t := 36) ?hr ?_; (case hd => rfl); (case hg => rfl); (case hr => first | (go_simp; done) | (go_simp; rfl)); intro gb443 hg w25 hbox hb; have n0_ := Aside0.mk (below_step (by repeat (first | (with_reducible first | exact HB.out | apply below_alloc | apply pw_below_drewN | apply below_drew1) | exact HB.out)) hb); have n1_ := Aside0.mk (hbox); have n2_ := Aside0.mk ((by rw [hg]; exact (below_size (by repeat (first | (with_reducible first | exact HB.out | apply below_alloc | apply pw_below_drewN | apply below_drew1) | exact HB.out))) : w.heap.size ≤ gb443)); have n3_ := Aside0.mk ((by rw [hg]; exact (below_size (by repeat (first | (with_reducible first | exact HB.out | apply below_alloc | apply pw_below_drewN | apply below_drew1) | exact HB.out))) : w.heap.size ≤ gb443)); clear HB; have HB := n0_; have BK443 := n1_; have GW443 := n2_; have GE443 := n3_; clear n0_ n1_ n2_ n3_; clear hb hbox hg; have hcz26_0 : w25.cell? ⟨gb443, 0, none⟩ = some (.int .i64 0) := (blk_cell BK443.out 0).trans rfl; have hcz26_1 : w25.cell? ⟨gb443, 1, none⟩ = some (.int .i64 0) := (blk_cell BK443.out 1).trans rfl; have hcz26_2 : w25.cell? ⟨gb443, 2, none⟩ = some (.int .i64 0) := (blk_cell BK443.out 2).trans rfl; have hfz26_0 := blk_frozen BK443.out 0; have hfz26_1 := blk_frozen BK443.out 1; have hfz26_2 := blk_frozen BK443.out 2))
             go_ret2
             exact ⟨by first | rfl | (simp [errW_none, errW_some] <;> rfl) | (simp [*, errW_none, errW_some] <;> rfl), by repeat (first | (with_reducible first | exact HB.out | apply below_alloc | apply pw_below_drewN | apply below_drew1 | refine below_set ?_ GE443.out) | exact HB.out)⟩
            ·rw [if_neg c24] at H
             have c24b0 : decide ((a1.size : Int) < ((rd_T36 l2 x19_1).f2)) = false := decide_eq_false c24
             clear c24
             have H' := Aside0.mk H
             clear H
             have p442 : 0 ≤ (x19_1 : Int) := of_decide_eq_true (by first | (with_reducible assumption) | assumption)
             have q442 : x19_1 < (l2.length : Int) := of_decide_eq_true (by first | (with_reducible assumption) | assumption)
             obtain ⟨ad442, e442, hx442_0, hx442_1, hx442_2⟩ := at_T36 HR2.out x19_1 p442 q442
             cases e442
             replace hx442_0 := (HB.out.cell (World.block_lt_of_cell? w _ hx442_0)).trans hx442_0
             replace hx442_1 := (HB.out.cell (World.block_lt_of_cell? w _ hx442_1)).trans hx442_1
             replace hx442_2 := (HB.out.cell (World.block_lt_of_cell? w _ hx442_2)).trans hx442_2
             replace p442 := eq_true p442
             replace q442 := eq_true q442
             go_wp2_with (first | ((with_reducible refine gate_dst (N := 10) rfl ?_); (try (refine gate_guard (by rfl) ?_; dsimp only)); refine box_event ?hg (N := 10) ?hd (cs := #[.int .i64 0, .int .i64 0, .int .i64 0]) (t := 36) ?hr ?_; (case hd => rfl); (case hg => rfl); (case hr => first | (go_simp; done) | (go_simp; rfl)); intro gb443 hg w27 hbox hb; have n0_ := Aside0.mk (below_step (by repeat (first | (with_reducible first | exact HB.out | apply below_alloc | apply pw_below_drewN | apply below_drew1) | exact HB.out)) hb); have n1_ := Aside0.mk (hbox); have n2_ := Aside0.mk ((by rw [hg]; exact (below_size (by repeat (first | (with_reducible first | exact HB.out | apply below_alloc | apply pw_below_drewN | apply below_drew1) | exact HB.out))) : w.heap.size ≤ gb443)); have n3_ := Aside0.mk ((by rw [hg]; exact (below_size (by repeat (first | (with_reducible first | exact HB.out | apply below_alloc | apply pw_below_drewN | apply below_drew1) | exact HB.out))) : w.heap.size ≤ gb443)); clear HB; have HB := n0_; have BK443 := n1_; have GW443 := n2_; have GE443 := n3_; clear n0_ n1_ n2_ n3_; clear hb hbox hg; have hcz28_0 : w27.cell? ⟨gb443, 0, none⟩ = some (.int .i64 0) := (blk_cell BK443.out 0).trans rfl; have hcz28_1 : w27.cell? ⟨gb443, 1, none⟩ = some (.int .i64 0) := (blk_cell BK443.out 1).trans rfl; have hcz28_2 : w27.cell? ⟨gb443, 2, none⟩ = some (.int .i64 0) := (blk_cell BK443.out 2).trans rfl; have hfz28_0 := blk_frozen BK443.out 0; have hfz28_1 := blk_frozen BK443.out 1; have hfz28_2 := blk_frozen BK443.out 2))
             go_roundg k1
             case measure => have := HK1.out; omega
             case rel => exact ⟨((rd_T36 l2 x19_1).f2), (wrap64 (x19_1 + 1)), (by first | rfl | (simp; done) | (simp [*]; done) | (simp <;> omega) | rw [u32_tmod]), (by first | rfl | (simp; done) | (simp [*]; done) | (simp <;> omega) | rw [u32_tmod]), H', ⟨by have := HK1.out; omega⟩, ⟨by repeat (first | (with_reducible first | exact HB.out | apply below_alloc | apply pw_below_drewN | apply below_drew1 | refine below_set ?_ GE443.out) | exact HB.out)⟩⟩
       ·rw [if_neg c11] at H
        exact absurd H (by simp)
      ·rw [if_neg c10] at H
       exact absurd H (by simp)
     ·rw [if_neg c9] at H
      have c9b0 : decide (x19_1 < (l2.length : Int)) = false := decide_eq_false c9
      clear c9
      simp only [Option.some.injEq, Prod.mk.injEq] at H
      obtain ⟨rfl, rfl⟩ := H
      go_wp2
      go_ret2
      exact ⟨by first | rfl | (simp [errW_none, errW_some] <;> rfl) | (simp [*, errW_none, errW_some] <;> rfl), by repeat (first | (with_reducible first | exact HB.out | apply below_alloc | apply pw_below_drewN | apply below_drew1) | exact HB.out)⟩
 ·rw [if_neg c5] at H
  have c5b0 : (t441 == 0) = false := beq_eq_false_iff_ne.mpr c5
  have c5b1 : (t441 != 0) = true := bne_iff_ne.mpr c5
  simp only [Option.some.injEq, Prod.mk.injEq] at H
  obtain ⟨rfl, rfl⟩ := H
  go_enter Try.func33, Try.ntmps33
  go_wp2_with (first | ((with_reducible refine gate_callee (f := 62) rfl ?_); refine goesL_ (some 12) rfl rfl Try.func62 (by kernel_rfl) rfl #[.slice A0 l0.length c0] rfl (by (try simp only [List.map_toArray, List.map_cons, List.map_nil]); first | done | rfl | (simp only [List.length_drop, List.length_take]; rfl)) ?_; (with_reducible refine (token_Kinds.calls k _ _ l0 t441 _ ?side1 ?side2 A4.out).mono ?_); (case side1 => repeat (first | exact HR0.out | (with_reducible refine Kd.C_alloc ?_ _) | (with_reducible refine Kd.C_drewN ?_ _) | (with_reducible refine Kd.C_drew ?_))); (case side2 => exact HC0.out); rintro e w29 ⟨rfl, hb⟩; refine ⟨_, rfl, ?_⟩; have n0_ := Aside0.mk (below_step (by repeat (first | (with_reducible first | exact HB.out | apply below_alloc | apply pw_below_drewN | apply below_drew1) | exact HB.out)) hb); clear HB; have HB := n0_; clear n0_; (try clear hb); (try clear hb2); (try clear hk); (try clear hi)))
  go_ret2
  exact ⟨by first | rfl | (simp [errW_none, errW_some] <;> rfl) | (simp [*, errW_none, errW_some] <;> rfl), by repeat (first | (with_reducible first | exact HB.out | apply below_alloc | apply pw_below_drewN | apply below_drew1) | exact HB.out)⟩
def stringslite_Index.f (a0 : ByteArray) (a1 : ByteArray) : Option (Int) := if a1.size = 1 then some (Lib.indexByte a0.data.toList (a1.get! 0)) else none
set_option maxHeartbeats 4000000 in
set_option maxRecDepth 100000 in
theorem stringslite_Index.calls (a0 : ByteArray) (a1 : ByteArray) (r : Int) (w : World) (h : stringslite_Index.f a0 a1 = some r) :
  Calls Try.prog 87 #[.string a0, .string a1] w fun e w' => e = .returned (.int .i64 r) ∧ Drawn0 w w' := by
 unfold stringslite_Index.f at h
 by_cases c1 : a1.size = 1
 ·rw [if_pos c1] at h
  obtain rfl := Option.some.inj h
  clear h
  obtain ⟨⟨b, rfl⟩⟩ : Nonempty {b : UInt8 // a1 = ⟨#[b]⟩} := by
   obtain ⟨⟨l⟩⟩ := a1
   match l, c1 with
   | [b], _ => exact ⟨b, rfl⟩
  clear c1
  go_enter Try.func87, Try.ntmps87
  go_wp2_with (go_at_call 101; refine (stringslite_IndexByte.calls _ _ _ _ rfl).mono ?_; rintro e w' ⟨rfl, ⟨nd, rfl⟩⟩)
  ·have h : ([b] == a0.toList) = true := by assumption
   go_ret
   refine ⟨?_, Drawn0.refl _⟩
   have e : a0.data.toList = [b] := by rw [← Lib.toList_data]; exact (beq_iff_eq.1 h).symm
   rw [e]
   simp [Lib.indexByte, ByteArray.get!]
  ·go_ret
   exact ⟨rfl, by repeat (first | exact Drawn0.refl _ | apply Drawn0.step)⟩
 ·rw [if_neg c1] at h
  exact absurd h (by simp)
def strings_Index.f (a0 : ByteArray) (a1 : ByteArray) : Option (Int) := (stringslite_Index.f a0 a1).bind fun t444 => (some t444)
set_option maxHeartbeats 8000000 in
set_option maxRecDepth 100000 in
theorem strings_Index.calls (a0 : ByteArray) (a1 : ByteArray) (r : Int) (w : World) (h : strings_Index.f a0 a1 = some r) :
  Calls Try.prog 63 #[.string a0, .string a1] w fun e w' => e = .returned (.int .i64 r) ∧ Drawn0 w w' := by
 have H : ((stringslite_Index.f a0 a1).bind fun t444 => (some t444)) = some r := h
 clear h
 replace H := Option.bind_eq_some_iff.mp H
 obtain ⟨t444, A30, H⟩ := H
 replace H : (some t444) = some r := H
 have A3 := Aside0.mk A30
 clear A30
 obtain rfl := Option.some.inj H
 go_enter Try.func63, Try.ntmps63
 go_wp2_with (first | ((with_reducible refine gate_callee (f := 87) rfl ?_); refine goesL_ (some 7) rfl rfl Try.func87 (by kernel_rfl) rfl #[.string a0, .string a1] rfl (by (try simp only [List.map_toArray, List.map_cons, List.map_nil]); first | done | rfl | (simp only [List.length_drop, List.length_take]; rfl)) ?_; (with_reducible refine (stringslite_Index.calls a0 a1 t444 _ A3.out).mono ?_); rintro e w' ⟨rfl, ⟨nd, rfl⟩⟩; refine ⟨_, rfl, ?_⟩))
 go_ret
 exact ⟨by first | rfl | (simp; done) | (simp [*]; done) | (simp <;> omega) | rw [u32_tmod], by repeat (first | exact Drawn0.refl _ | apply Drawn0.step)⟩
def strings_Contains.f (a0 : ByteArray) (a1 : ByteArray) : Option (Bool) := (strings_Index.f a0 a1).bind fun t445 => (some (decide (t445 ≥ 0)))
set_option maxHeartbeats 8000000 in
set_option maxRecDepth 100000 in
theorem strings_Contains.calls (a0 : ByteArray) (a1 : ByteArray) (r : Bool) (w : World) (h : strings_Contains.f a0 a1 = some r) :
  Calls Try.prog 36 #[.string a0, .string a1] w fun e w' => e = .returned (.bool r) ∧ Drawn0 w w' := by
 have H : ((strings_Index.f a0 a1).bind fun t445 => (some (decide (t445 ≥ 0)))) = some r := h
 clear h
 replace H := Option.bind_eq_some_iff.mp H
 obtain ⟨t445, A30, H⟩ := H
 replace H : (some (decide (t445 ≥ 0))) = some r := H
 have A3 := Aside0.mk A30
 clear A30
 obtain rfl := Option.some.inj H
 go_enter Try.func36, Try.ntmps36
 go_wp2_with (first | ((with_reducible refine gate_callee (f := 63) rfl ?_); refine goesL_ (some 7) rfl rfl Try.func63 (by kernel_rfl) rfl #[.string a0, .string a1] rfl (by (try simp only [List.map_toArray, List.map_cons, List.map_nil]); first | done | rfl | (simp only [List.length_drop, List.length_take]; rfl)) ?_; (with_reducible refine (strings_Index.calls a0 a1 t445 _ A3.out).mono ?_); rintro e w' ⟨rfl, ⟨nd, rfl⟩⟩; refine ⟨_, rfl, ?_⟩))
 go_ret
 exact ⟨by first | rfl | (simp; done) | (simp [*]; done) | (simp <;> omega) | rw [u32_tmod], by repeat (first | exact Drawn0.refl _ | apply Drawn0.step)⟩
end Go.Proofs.Ytcajiapjdlphmaa.H
