import Derived.Test.YtcajiapjdlphmaaEPre
namespace Go.Proofs.Ytcajiapjdlphmaa.H
open Go.RowKit Go.Proofs.YtcajiapjdlphmaaW.PrintWords Go.Proofs.YtcajiapjdlphmaaW.PrintLast Go.Proofs.YtcajiapjdlphmaaW.PrintMore
attribute [local go_sem] max2_int min2_int max_two min_two max_three min_three max_four min_four
set_option linter.unusedVariables false
set_option linter.unusedSimpArgs false
mutual
def quoinref07_name.j0 : Nat → ByteArray → Bool → Option (Bool)
 | 0, _, _ => none
 | k + 1, x0, x13 => if x13 = true then (some false) else (quoinref07_name.l0 k x0 0)
def quoinref07_name.l0 : Nat → ByteArray → Int → Option (Bool)
 | 0, _, _ => none
 | k + 1, x0, x3 => if x3 < (x0.size : Int) then (if 0 ≤ x3 then (if (bt x0 x3) = 95 then (quoinref07_name.l0 k x0 (wrap64 (x3 + 1))) else (if (bt x0 x3) ≥ 97 then (if (bt x0 x3) ≤ 122 then (quoinref07_name.l0 k x0 (wrap64 (x3 + 1))) else (if (bt x0 x3) ≥ 65 then (if ((bt x0 x3) ≤ 90) then (quoinref07_name.l0 k x0 (wrap64 (x3 + 1))) else (if x3 = 0 then (some false) else (if (bt x0 x3) < 48 then (some false) else (if (bt x0 x3) > 57 then (some false) else (quoinref07_name.l0 k x0 (wrap64 (x3 + 1))))))) else (if x3 = 0 then (some false) else (if (bt x0 x3) < 48 then (some false) else (if (bt x0 x3) > 57 then (some false) else (quoinref07_name.l0 k x0 (wrap64 (x3 + 1)))))))) else (if (bt x0 x3) ≥ 65 then (if ((bt x0 x3) ≤ 90) then (quoinref07_name.l0 k x0 (wrap64 (x3 + 1))) else (if x3 = 0 then (some false) else (if (bt x0 x3) < 48 then (some false) else (if (bt x0 x3) > 57 then (some false) else (quoinref07_name.l0 k x0 (wrap64 (x3 + 1))))))) else (if x3 = 0 then (some false) else (if (bt x0 x3) < 48 then (some false) else (if (bt x0 x3) > 57 then (some false) else (quoinref07_name.l0 k x0 (wrap64 (x3 + 1))))))))) else (none)) else (some true)
end
def quoinref07_name.f (k : Nat) (a0 : ByteArray) : Option (Bool) := if (a0.size : Int) < 1 then (quoinref07_name.j0 k a0 true) else (quoinref07_name.j0 k a0 (decide ((a0.size : Int) > 64)))
theorem quoinref07_name.mono_l : ∀ k, (∀ y0 y1, LeO (quoinref07_name.j0 k y0 y1) (quoinref07_name.j0 (k + 1) y0 y1)) ∧ (∀ y0 y1, LeO (quoinref07_name.l0 k y0 y1) (quoinref07_name.l0 (k + 1) y0 y1))
 | 0 => ⟨fun _ _ r h => by simp [quoinref07_name.j0] at h, fun _ _ r h => by simp [quoinref07_name.l0] at h⟩
 | k + 1 => by
  obtain ⟨ih0, ih1⟩ := quoinref07_name.mono_l k
  refine ⟨?_, ?_⟩
  ·intro y0 y1
   unfold quoinref07_name.j0
   exact mO
  ·intro y0 y1
   unfold quoinref07_name.l0
   exact mO
theorem quoinref07_name.mono : ∀ a0 k, LeO (quoinref07_name.f k a0) (quoinref07_name.f (k + 1) a0) := by
 intro a0 k
 obtain ⟨ih0, ih1⟩ := quoinref07_name.mono_l k
 unfold quoinref07_name.f
 exact mO
set_option maxHeartbeats 8000000 in
set_option maxRecDepth 100000 in
theorem quoinref07_name.calls {k : Nat} {a0 : ByteArray} {r : Bool} {w : World} (h : quoinref07_name.f k a0 = some r) :
  Calls Try.prog 88 #[.string a0] w fun e w' => e = .returned (.bool r) ∧ Drawn0 w w' := by
 have H : (if (a0.size : Int) < 1 then (quoinref07_name.j0 k a0 true) else (quoinref07_name.j0 k a0 (decide ((a0.size : Int) > 64)))) = some r := h
 clear h
 have HC2 := Aside0.mk H
 clear H
 go_enter Try.func88, Try.ntmps88
 go_upto_region 1 with (fail)
 go_cut [13] (fun v13 wc => ∃ (kq : Nat) (x13_1 : Bool), v13 = .bool x13_1 ∧ Aside0 (quoinref07_name.j0 kq a0 x13_1 = some r) ∧ Aside0 (kq ≤ k) ∧ Drawn0 w wc)
 case first =>
  have H := HC2.out
  clear HC2
  by_cases c3 : (a0.size : Int) < 1
  ·rw [if_pos c3] at H
   have c3b0 := decide_eq_true c3
   have c3b1 : decide (a0.size < 1) = true := decide_eq_true Z57
   clear c3
   (first | rw [c3b0] | (simp only [i64_w, i32_w]; rw [c3b0]) | skip)
   have H' := Aside0.mk H
   clear H
   go_wp2
   go_meet
   case rel => exact ⟨_, (true), Z1, H', ⟨Z26⟩, Z4⟩
  ·rw [if_neg c3] at H
   have c3b0 := decide_eq_false c3
   have c3b1 : decide (a0.size < 1) = false := decide_eq_false Z57
   clear c3
   (first | rw [c3b0] | (simp only [i64_w, i32_w]; rw [c3b0]) | skip)
   have H' := Aside0.mk H
   clear H
   go_wp2
   go_meet
   case rel => exact ⟨_, (decide ((a0.size : Int) > 64)), Z1, H', ⟨Z26⟩, Z4⟩
 case rest =>
  clear HC2
  try clear p2
  try clear c3
  try clear c3b0
  try clear c3b1
  obtain ⟨kq, x13_1, rfl, HA, HJ1, ⟨mc1, rfl⟩⟩ := hcut
  cases kq with
  | zero => exact absurd HA.out (by simp [quoinref07_name.j0])
  | succ kj1 =>
   have H := HA.out
   clear HA
   simp only [quoinref07_name.j0] at H
   by_cases c4 : x13_1 = true
   ·subst c4
    have H1 : (some false) = some r := by rw [if_pos rfl] at H; exact H
    clear H
    have H := H1
    clear H1
    obtain rfl := Option.some.inj H
    go_wp2
    go_ret
    exact ⟨Z1, Z4⟩
   ·replace c4 := Bool.eq_false_iff.mpr c4
    subst c4
    have H1 : (quoinref07_name.l0 kj1 a0 0) = some r := by rw [if_neg (show ¬ (false = true) by decide)] at H; exact H
    clear H
    have H := H1
    clear H1
    have H' := Aside0.mk H
    clear H
    go_wp2
    go_loopg [3] kj1 (fun kq v3 w' => ∃ (x3_2 : Int), v3 = .int .i64 x3_2 ∧ Aside0 (quoinref07_name.l0 kq a0 x3_2 = some r) ∧ Aside0 (kq ≤ kj1) ∧ Drawn0 w w')
    case atStart => exact ⟨(0), Z1, H', ⟨Nat.le_refl _⟩, Z4⟩
    case round =>
     clear H'
     try clear c1
     try clear p2
     try clear c3
     try clear c3b0
     try clear c3b1
     try clear c4
     try clear p2
     obtain ⟨x3_2, rfl, HA, HK2, ⟨m2, rfl⟩⟩ := hrel
     cases gk with
     | zero => exact absurd HA.out (by simp [quoinref07_name.l0])
     | succ k2 =>
      have H := HA.out
      clear HA
      simp only [quoinref07_name.l0] at H
      by_cases c5 : x3_2 < (a0.size : Int)
      ·rw [if_pos c5] at H
       have c5b0 := decide_eq_true c5
       clear c5
       by_cases c6 : 0 ≤ x3_2
       ·rw [if_pos c6] at H
        have c6b0 := decide_eq_true c6
        clear c6
        by_cases c8 : (bt a0 x3_2) = 95
        ·rw [if_pos c8] at H
         have c8b0 := e1 c8
         have c8b1 := e2 c8
         clear c8
         have H' := Aside0.mk H
         clear H
         have p7 : 0 ≤ (x3_2 : Int) := of_decide_eq_true Z3
         have q7 : x3_2 < (a0.size : Int) := of_decide_eq_true Z3
         have hx7 := bt_at a0 x3_2
         replace p7 := eq_true p7
         replace q7 := eq_true q7
         go_wp2
         go_roundg k2
         case measure => have := HJ1.out; have := HK2.out; omega
         case rel => exact ⟨(wrap64 (x3_2 + 1)), Z1, H', ⟨Z74⟩, Z4⟩
        ·rw [if_neg c8] at H
         have c8b0 := e3 c8
         have c8b1 := e4 c8
         by_cases c9 : (bt a0 x3_2) ≥ 97
         ·rw [if_pos c9] at H
          have c9b0 : decide (97 ≤ (bt a0 x3_2)) = true := decide_eq_true c9
          clear c9
          by_cases c10 : (bt a0 x3_2) ≤ 122
          ·rw [if_pos c10] at H
           have c10b0 := decide_eq_true c10
           clear c10
           have H' := Aside0.mk H
           clear H
           have p7 : 0 ≤ (x3_2 : Int) := of_decide_eq_true Z3
           have q7 : x3_2 < (a0.size : Int) := of_decide_eq_true Z3
           have hx7 := bt_at a0 x3_2
           replace p7 := eq_true p7
           replace q7 := eq_true q7
           go_wp2
           go_roundg k2
           case measure => have := HJ1.out; have := HK2.out; omega
           case rel => exact ⟨(wrap64 (x3_2 + 1)), Z1, H', ⟨Z74⟩, Z4⟩
          ·rw [if_neg c10] at H
           have c10b0 := decide_eq_false c10
           clear c10
           by_cases c11 : (bt a0 x3_2) ≥ 65
           ·rw [if_pos c11] at H
            have c11b0 : decide (65 ≤ (bt a0 x3_2)) = true := decide_eq_true c11
            clear c11
            by_cases c12 : ((bt a0 x3_2) ≤ 90)
            ·rw [if_pos c12] at H
             have c12b0 : decide ((bt a0 x3_2) ≤ 90) = true := decide_eq_true c12
             clear c12
             have H' := Aside0.mk H
             clear H
             have p7 : 0 ≤ (x3_2 : Int) := of_decide_eq_true Z3
             have q7 : x3_2 < (a0.size : Int) := of_decide_eq_true Z3
             have hx7 := bt_at a0 x3_2
             replace p7 := eq_true p7
             replace q7 := eq_true q7
             go_wp2
             go_roundg k2
             case measure => have := HJ1.out; have := HK2.out; omega
             case rel => exact ⟨(wrap64 (x3_2 + 1)), Z1, H', ⟨Z74⟩, Z4⟩
            ·rw [if_neg c12] at H
             have c12b0 : decide ((bt a0 x3_2) ≤ 90) = false := decide_eq_false c12
             clear c12
             by_cases c13 : x3_2 = 0
             ·rw [if_pos c13] at H
              have c13b0 := e1 c13
              have c13b1 := e2 c13
              clear c13
              obtain rfl := Option.some.inj H
              have p7 : 0 ≤ (x3_2 : Int) := of_decide_eq_true Z3
              have q7 : x3_2 < (a0.size : Int) := of_decide_eq_true Z3
              have hx7 := bt_at a0 x3_2
              replace p7 := eq_true p7
              replace q7 := eq_true q7
              go_wp2
              go_ret
              exact ⟨Z1, Z4⟩
             ·rw [if_neg c13] at H
              have c13b0 := e3 c13
              have c13b1 := e4 c13
              by_cases c14 : (bt a0 x3_2) < 48
              ·rw [if_pos c14] at H
               have c14b0 := decide_eq_true c14
               clear c14
               obtain rfl := Option.some.inj H
               have p7 : 0 ≤ (x3_2 : Int) := of_decide_eq_true Z3
               have q7 : x3_2 < (a0.size : Int) := of_decide_eq_true Z3
               have hx7 := bt_at a0 x3_2
               replace p7 := eq_true p7
               replace q7 := eq_true q7
               go_wp2
               go_ret
               exact ⟨Z1, Z4⟩
              ·rw [if_neg c14] at H
               have c14b0 := decide_eq_false c14
               clear c14
               by_cases c15 : (bt a0 x3_2) > 57
               ·rw [if_pos c15] at H
                have c15b0 : decide (57 < (bt a0 x3_2)) = true := decide_eq_true c15
                clear c15
                obtain rfl := Option.some.inj H
                have p7 : 0 ≤ (x3_2 : Int) := of_decide_eq_true Z3
                have q7 : x3_2 < (a0.size : Int) := of_decide_eq_true Z3
                have hx7 := bt_at a0 x3_2
                replace p7 := eq_true p7
                replace q7 := eq_true q7
                go_wp2
                go_ret
                exact ⟨Z1, Z4⟩
               ·rw [if_neg c15] at H
                have c15b0 : decide (57 < (bt a0 x3_2)) = false := decide_eq_false c15
                clear c15
                have H' := Aside0.mk H
                clear H
                have p7 : 0 ≤ (x3_2 : Int) := of_decide_eq_true Z3
                have q7 : x3_2 < (a0.size : Int) := of_decide_eq_true Z3
                have hx7 := bt_at a0 x3_2
                replace p7 := eq_true p7
                replace q7 := eq_true q7
                go_wp2
                go_roundg k2
                case measure => have := HJ1.out; have := HK2.out; omega
                case rel => exact ⟨(wrap64 (x3_2 + 1)), Z1, H', ⟨Z74⟩, Z4⟩
           ·rw [if_neg c11] at H
            have c11b0 : decide (65 ≤ (bt a0 x3_2)) = false := decide_eq_false c11
            clear c11
            by_cases c16 : x3_2 = 0
            ·rw [if_pos c16] at H
             have c16b0 := e1 c16
             have c16b1 := e2 c16
             clear c16
             obtain rfl := Option.some.inj H
             have p7 : 0 ≤ (x3_2 : Int) := of_decide_eq_true Z3
             have q7 : x3_2 < (a0.size : Int) := of_decide_eq_true Z3
             have hx7 := bt_at a0 x3_2
             replace p7 := eq_true p7
             replace q7 := eq_true q7
             go_wp2
             go_ret
             exact ⟨Z1, Z4⟩
            ·rw [if_neg c16] at H
             have c16b0 := e3 c16
             have c16b1 := e4 c16
             by_cases c17 : (bt a0 x3_2) < 48
             ·rw [if_pos c17] at H
              have c17b0 := decide_eq_true c17
              clear c17
              obtain rfl := Option.some.inj H
              have p7 : 0 ≤ (x3_2 : Int) := of_decide_eq_true Z3
              have q7 : x3_2 < (a0.size : Int) := of_decide_eq_true Z3
              have hx7 := bt_at a0 x3_2
              replace p7 := eq_true p7
              replace q7 := eq_true q7
              go_wp2
              go_ret
              exact ⟨Z1, Z4⟩
             ·rw [if_neg c17] at H
              have c17b0 := decide_eq_false c17
              clear c17
              by_cases c18 : (bt a0 x3_2) > 57
              ·rw [if_pos c18] at H
               have c18b0 : decide (57 < (bt a0 x3_2)) = true := decide_eq_true c18
               clear c18
               obtain rfl := Option.some.inj H
               have p7 : 0 ≤ (x3_2 : Int) := of_decide_eq_true Z3
               have q7 : x3_2 < (a0.size : Int) := of_decide_eq_true Z3
               have hx7 := bt_at a0 x3_2
               replace p7 := eq_true p7
               replace q7 := eq_true q7
               go_wp2
               go_ret
               exact ⟨Z1, Z4⟩
              ·rw [if_neg c18] at H
               have c18b0 : decide (57 < (bt a0 x3_2)) = false := decide_eq_false c18
               clear c18
               have H' := Aside0.mk H
               clear H
               have p7 : 0 ≤ (x3_2 : Int) := of_decide_eq_true Z3
               have q7 : x3_2 < (a0.size : Int) := of_decide_eq_true Z3
               have hx7 := bt_at a0 x3_2
               replace p7 := eq_true p7
               replace q7 := eq_true q7
               go_wp2
               go_roundg k2
               case measure => have := HJ1.out; have := HK2.out; omega
               case rel => exact ⟨(wrap64 (x3_2 + 1)), Z1, H', ⟨Z74⟩, Z4⟩
         ·rw [if_neg c9] at H
          have c9b0 : decide (97 ≤ (bt a0 x3_2)) = false := decide_eq_false c9
          clear c9
          by_cases c19 : (bt a0 x3_2) ≥ 65
          ·rw [if_pos c19] at H
           have c19b0 : decide (65 ≤ (bt a0 x3_2)) = true := decide_eq_true c19
           clear c19
           by_cases c20 : ((bt a0 x3_2) ≤ 90)
           ·rw [if_pos c20] at H
            have c20b0 : decide ((bt a0 x3_2) ≤ 90) = true := decide_eq_true c20
            clear c20
            have H' := Aside0.mk H
            clear H
            have p7 : 0 ≤ (x3_2 : Int) := of_decide_eq_true Z3
            have q7 : x3_2 < (a0.size : Int) := of_decide_eq_true Z3
            have hx7 := bt_at a0 x3_2
            replace p7 := eq_true p7
            replace q7 := eq_true q7
            go_wp2
            go_roundg k2
            case measure => have := HJ1.out; have := HK2.out; omega
            case rel => exact ⟨(wrap64 (x3_2 + 1)), Z1, H', ⟨Z74⟩, Z4⟩
           ·rw [if_neg c20] at H
            have c20b0 : decide ((bt a0 x3_2) ≤ 90) = false := decide_eq_false c20
            clear c20
            by_cases c21 : x3_2 = 0
            ·rw [if_pos c21] at H
             have c21b0 := e1 c21
             have c21b1 := e2 c21
             clear c21
             obtain rfl := Option.some.inj H
             have p7 : 0 ≤ (x3_2 : Int) := of_decide_eq_true Z3
             have q7 : x3_2 < (a0.size : Int) := of_decide_eq_true Z3
             have hx7 := bt_at a0 x3_2
             replace p7 := eq_true p7
             replace q7 := eq_true q7
             go_wp2
             go_ret
             exact ⟨Z1, Z4⟩
            ·rw [if_neg c21] at H
             have c21b0 := e3 c21
             have c21b1 := e4 c21
             by_cases c22 : (bt a0 x3_2) < 48
             ·rw [if_pos c22] at H
              have c22b0 := decide_eq_true c22
              clear c22
              obtain rfl := Option.some.inj H
              have p7 : 0 ≤ (x3_2 : Int) := of_decide_eq_true Z3
              have q7 : x3_2 < (a0.size : Int) := of_decide_eq_true Z3
              have hx7 := bt_at a0 x3_2
              replace p7 := eq_true p7
              replace q7 := eq_true q7
              go_wp2
              go_ret
              exact ⟨Z1, Z4⟩
             ·rw [if_neg c22] at H
              have c22b0 := decide_eq_false c22
              clear c22
              by_cases c23 : (bt a0 x3_2) > 57
              ·rw [if_pos c23] at H
               have c23b0 : decide (57 < (bt a0 x3_2)) = true := decide_eq_true c23
               clear c23
               obtain rfl := Option.some.inj H
               have p7 : 0 ≤ (x3_2 : Int) := of_decide_eq_true Z3
               have q7 : x3_2 < (a0.size : Int) := of_decide_eq_true Z3
               have hx7 := bt_at a0 x3_2
               replace p7 := eq_true p7
               replace q7 := eq_true q7
               go_wp2
               go_ret
               exact ⟨Z1, Z4⟩
              ·rw [if_neg c23] at H
               have c23b0 : decide (57 < (bt a0 x3_2)) = false := decide_eq_false c23
               clear c23
               have H' := Aside0.mk H
               clear H
               have p7 : 0 ≤ (x3_2 : Int) := of_decide_eq_true Z3
               have q7 : x3_2 < (a0.size : Int) := of_decide_eq_true Z3
               have hx7 := bt_at a0 x3_2
               replace p7 := eq_true p7
               replace q7 := eq_true q7
               go_wp2
               go_roundg k2
               case measure => have := HJ1.out; have := HK2.out; omega
               case rel => exact ⟨(wrap64 (x3_2 + 1)), Z1, H', ⟨Z74⟩, Z4⟩
          ·rw [if_neg c19] at H
           have c19b0 : decide (65 ≤ (bt a0 x3_2)) = false := decide_eq_false c19
           clear c19
           by_cases c24 : x3_2 = 0
           ·rw [if_pos c24] at H
            have c24b0 := e1 c24
            have c24b1 := e2 c24
            clear c24
            obtain rfl := Option.some.inj H
            have p7 : 0 ≤ (x3_2 : Int) := of_decide_eq_true Z3
            have q7 : x3_2 < (a0.size : Int) := of_decide_eq_true Z3
            have hx7 := bt_at a0 x3_2
            replace p7 := eq_true p7
            replace q7 := eq_true q7
            go_wp2
            go_ret
            exact ⟨Z1, Z4⟩
           ·rw [if_neg c24] at H
            have c24b0 := e3 c24
            have c24b1 := e4 c24
            by_cases c25 : (bt a0 x3_2) < 48
            ·rw [if_pos c25] at H
             have c25b0 := decide_eq_true c25
             clear c25
             obtain rfl := Option.some.inj H
             have p7 : 0 ≤ (x3_2 : Int) := of_decide_eq_true Z3
             have q7 : x3_2 < (a0.size : Int) := of_decide_eq_true Z3
             have hx7 := bt_at a0 x3_2
             replace p7 := eq_true p7
             replace q7 := eq_true q7
             go_wp2
             go_ret
             exact ⟨Z1, Z4⟩
            ·rw [if_neg c25] at H
             have c25b0 := decide_eq_false c25
             clear c25
             by_cases c26 : (bt a0 x3_2) > 57
             ·rw [if_pos c26] at H
              have c26b0 : decide (57 < (bt a0 x3_2)) = true := decide_eq_true c26
              clear c26
              obtain rfl := Option.some.inj H
              have p7 : 0 ≤ (x3_2 : Int) := of_decide_eq_true Z3
              have q7 : x3_2 < (a0.size : Int) := of_decide_eq_true Z3
              have hx7 := bt_at a0 x3_2
              replace p7 := eq_true p7
              replace q7 := eq_true q7
              go_wp2
              go_ret
              exact ⟨Z1, Z4⟩
             ·rw [if_neg c26] at H
              have c26b0 : decide (57 < (bt a0 x3_2)) = false := decide_eq_false c26
              clear c26
              have H' := Aside0.mk H
              clear H
              have p7 : 0 ≤ (x3_2 : Int) := of_decide_eq_true Z3
              have q7 : x3_2 < (a0.size : Int) := of_decide_eq_true Z3
              have hx7 := bt_at a0 x3_2
              replace p7 := eq_true p7
              replace q7 := eq_true q7
              go_wp2
              go_roundg k2
              case measure => have := HJ1.out; have := HK2.out; omega
              case rel => exact ⟨(wrap64 (x3_2 + 1)), Z1, H', ⟨Z74⟩, Z4⟩
       ·rw [if_neg c6] at H
        exact absurd H Z61
      ·rw [if_neg c5] at H
       have c5b0 := decide_eq_false c5
       clear c5
       obtain rfl := Option.some.inj H
       go_wp2
       go_ret
       exact ⟨Z1, Z4⟩
mutual
def quoinref07_Kinds.j0 : Nat → List ByteArray → Bool → Option (Bool)
 | 0, _, _ => none
 | k + 1, x0, x24 => if x24 = true then (some false) else (quoinref07_Kinds.l0 k x0 0)
def quoinref07_Kinds.l0 : Nat → List ByteArray → Int → Option (Bool)
 | 0, _, _ => none
 | k + 1, x0, x3 => if x3 < (x0.length : Int) then (if 0 ≤ x3 then ((quoinref07_name.f k (rdOf ByteArray.empty x0 x3)).bind fun t523 => (if t523 = true then (quoinref07_Kinds.l1 k x0 x3 0) else (some false))) else (none)) else (some true)
def quoinref07_Kinds.l1 : Nat → List ByteArray → Int → Int → Option (Bool)
 | 0, _, _, _ => none
 | k + 1, x0, x3, x4 => if x4 < x3 then (if 0 ≤ x4 then (if x4 < (x0.length : Int) then (if 0 ≤ x3 then (if x3 < (x0.length : Int) then (if (rdOf ByteArray.empty x0 x4).toList = (rdOf ByteArray.empty x0 x3).toList then (some false) else (quoinref07_Kinds.l1 k x0 x3 (wrap64 (x4 + 1)))) else (none)) else (none)) else (none)) else (none)) else (quoinref07_Kinds.l0 k x0 (wrap64 (x3 + 1)))
end
def quoinref07_Kinds.f (k : Nat) (l0 : List ByteArray) : Option (Bool) := if (l0.length : Int) < 2 then (quoinref07_Kinds.j0 k l0 true) else (if (l0.length : Int) > 1024 then (quoinref07_Kinds.j0 k l0 true) else (if 0 < (l0.length : Int) then (if (rdOf ByteArray.empty l0 0).toList = ([101, 110, 100] : List UInt8) then (if 1 < (l0.length : Int) then (quoinref07_Kinds.j0 k l0 ((rdOf ByteArray.empty l0 1).toList != ([101, 114, 114, 111, 114] : List UInt8))) else (none)) else (quoinref07_Kinds.j0 k l0 true)) else (none)))
theorem quoinref07_Kinds.mono_l : ∀ k, (∀ y0 y1, LeO (quoinref07_Kinds.j0 k y0 y1) (quoinref07_Kinds.j0 (k + 1) y0 y1)) ∧ (∀ y0 y1, LeO (quoinref07_Kinds.l0 k y0 y1) (quoinref07_Kinds.l0 (k + 1) y0 y1)) ∧ (∀ y0 y1 y2, LeO (quoinref07_Kinds.l1 k y0 y1 y2) (quoinref07_Kinds.l1 (k + 1) y0 y1 y2))
 | 0 => ⟨fun _ _ r h => by simp [quoinref07_Kinds.j0] at h, fun _ _ r h => by simp [quoinref07_Kinds.l0] at h, fun _ _ _ r h => by simp [quoinref07_Kinds.l1] at h⟩
 | k + 1 => by
  obtain ⟨ih0, ih1, ih2⟩ := quoinref07_Kinds.mono_l k
  refine ⟨?_, ?_, ?_⟩
  ·intro y0 y1
   unfold quoinref07_Kinds.j0
   have m0 := @quoinref07_name.mono
   exact mO
  ·intro y0 y1
   unfold quoinref07_Kinds.l0
   have m0 := @quoinref07_name.mono
   exact mO
  ·intro y0 y1 y2
   unfold quoinref07_Kinds.l1
   have m0 := @quoinref07_name.mono
   exact mO
theorem quoinref07_Kinds.mono : ∀ a0 k, LeO (quoinref07_Kinds.f k a0) (quoinref07_Kinds.f (k + 1) a0) := by
 intro a0 k
 obtain ⟨ih0, ih1, ih2⟩ := quoinref07_Kinds.mono_l k
 unfold quoinref07_Kinds.f
 have m0 := @quoinref07_name.mono
 exact mO
set_option maxHeartbeats 8000000 in
set_option maxRecDepth 100000 in
theorem quoinref07_Kinds.calls (k : Nat) (A0 : Option Addr) (c0 : Nat) (l0 : List ByteArray) (r : Bool) (w : World) (hr0 : Kd.C Kd.string w A0 l0.length l0) (hc0 : l0.length ≤ c0) (h : quoinref07_Kinds.f k l0 = some r) :
  Calls Try.prog 64 #[.slice A0 l0.length c0] w fun e w' => e = .returned (.bool r) ∧ Drawn0 w w' := by
 have HR0 := Aside0.mk hr0
 have HC0 := Aside0.mk hc0
 clear hr0 hc0
 have H : (if (l0.length : Int) < 2 then (quoinref07_Kinds.j0 k l0 true) else (if (l0.length : Int) > 1024 then (quoinref07_Kinds.j0 k l0 true) else (if 0 < (l0.length : Int) then (if (rdOf ByteArray.empty l0 0).toList = ([101, 110, 100] : List UInt8) then (if 1 < (l0.length : Int) then (quoinref07_Kinds.j0 k l0 ((rdOf ByteArray.empty l0 1).toList != ([101, 114, 114, 111, 114] : List UInt8))) else (none)) else (quoinref07_Kinds.j0 k l0 true)) else (none)))) = some r := h
 clear h
 have HC2 := Aside0.mk H
 clear H
 go_enter Try.func64, Try.ntmps64
 go_upto_region 1 with (fail)
 repeat (go_quiet (fail); go_upto_region 1 with (fail))
 go_cut [24] (fun v24 wc => ∃ (kq : Nat) (x24_1 : Bool), v24 = .bool x24_1 ∧ Aside0 (quoinref07_Kinds.j0 kq l0 x24_1 = some r) ∧ Aside0 (kq ≤ k) ∧ Drawn0 w wc)
 case first =>
  have H := HC2.out
  clear HC2
  by_cases c3 : (l0.length : Int) < 2
  ·rw [if_pos c3] at H
   have c3b0 := decide_eq_true c3
   have c3b1 : decide (l0.length < 2) = true := decide_eq_true Z57
   clear c3
   (first | rw [c3b0] | (simp only [i64_w, i32_w]; rw [c3b0]) | skip)
   have H' := Aside0.mk H
   clear H
   go_wp2
   repeat (go_quiet (fail); try go_wp2)
   go_meet
   case rel => exact ⟨_, (true), Z1, H', ⟨Z26⟩, Z4⟩
  ·rw [if_neg c3] at H
   have c3b0 := decide_eq_false c3
   have c3b1 : decide (l0.length < 2) = false := decide_eq_false Z57
   clear c3
   (first | rw [c3b0] | (simp only [i64_w, i32_w]; rw [c3b0]) | skip)
   by_cases c4 : (l0.length : Int) > 1024
   ·rw [if_pos c4] at H
    have c4b0 : decide (1024 < (l0.length : Int)) = true := decide_eq_true c4
    have c4b1 : decide (1024 < l0.length) = true := decide_eq_true Z57
    clear c4
    have H' := Aside0.mk H
    clear H
    go_wp2
    repeat (go_quiet (fail); try go_wp2)
    go_meet
    case rel => exact ⟨_, (true), Z1, H', ⟨Z26⟩, Z4⟩
   ·rw [if_neg c4] at H
    have c4b0 : decide (1024 < (l0.length : Int)) = false := decide_eq_false c4
    have c4b1 : decide (1024 < l0.length) = false := decide_eq_false Z57
    clear c4
    by_cases c5 : 0 < (l0.length : Int)
    ·rw [if_pos c5] at H
     have c5b0 := decide_eq_true c5
     have c5b1 : decide (0 < l0.length) = true := decide_eq_true Z57
     clear c5
     by_cases c6 : (rdOf ByteArray.empty l0 0).toList = ([101, 110, 100] : List UInt8)
     ·rw [if_pos c6] at H
      have c6b0 := e1 c6
      have c6b1 := e2 c6
      clear c6
      by_cases c7 : 1 < (l0.length : Int)
      ·rw [if_pos c7] at H
       have c7b0 := decide_eq_true c7
       have c7b1 : decide (1 < l0.length) = true := decide_eq_true Z57
       clear c7
       have H' := Aside0.mk H
       clear H
       have p520 : 0 ≤ (0 : Int) := Z57
       have q520 : 0 < (l0.length : Int) := of_decide_eq_true Z3
       obtain ⟨ad520, e520, hx520_0⟩ := Kd.at_string HR0.out 0 p520 q520
       cases e520
       have qi520 : (0 < l0.length) = True := eq_true Z57
       (try rw [show ((0 : Int)).toNat = 0 from rfl] at hx520_0)
       (try rw [Addr.add_zero'] at hx520_0)
       replace p520 := eq_true p520
       replace q520 := eq_true q520
       have p521 : 0 ≤ (1 : Int) := Z57
       have q521 : 1 < (l0.length : Int) := of_decide_eq_true Z3
       obtain ⟨ad521, e521, hx521_0⟩ := Kd.at_string HR0.out 1 p521 q521
       obtain rfl : ad520 = ad521 := (by injection e521)
       (try simp only [show (1 : Int).toNat = 1 from rfl, Nat.reduceMul, Nat.reduceEqDiff, Go.Addr.add, ↓reduceIte] at hx521_0)
       have qi521 : (1 < l0.length) = True := eq_true Z57
       (try rw [show ((1 : Int)).toNat = 1 from rfl] at hx521_0)
       replace p521 := eq_true p521
       replace q521 := eq_true q521
       go_wp2
       repeat (go_quiet (fail); try go_wp2)
       go_meet
       case rel => exact ⟨_, (((rdOf ByteArray.empty l0 1).toList != ([101, 114, 114, 111, 114] : List UInt8))), Z1, H', ⟨Z26⟩, Z4⟩
      ·rw [if_neg c7] at H
       exact absurd H Z61
     ·rw [if_neg c6] at H
      have c6b0 := e3 c6
      have c6b1 := e4 c6
      have H' := Aside0.mk H
      clear H
      have p520 : 0 ≤ (0 : Int) := Z57
      have q520 : 0 < (l0.length : Int) := of_decide_eq_true Z3
      obtain ⟨ad520, e520, hx520_0⟩ := Kd.at_string HR0.out 0 p520 q520
      cases e520
      have qi520 : (0 < l0.length) = True := eq_true Z57
      (try rw [show ((0 : Int)).toNat = 0 from rfl] at hx520_0)
      (try rw [Addr.add_zero'] at hx520_0)
      replace p520 := eq_true p520
      replace q520 := eq_true q520
      go_wp2
      repeat (go_quiet (fail); try go_wp2)
      go_meet
      case rel => exact ⟨_, (true), Z1, H', ⟨Z26⟩, Z4⟩
    ·rw [if_neg c5] at H
     exact absurd H Z61
 case rest =>
  clear HC2
  try clear p2
  try clear c3
  try clear c3b0
  try clear c3b1
  try clear c4
  try clear c4b0
  try clear c4b1
  try clear c5
  try clear c5b0
  try clear c5b1
  try clear p5
  try clear q5
  try clear hx5
  try clear qi5
  try clear c6
  try clear c6b0
  try clear c6b1
  try clear c7
  try clear c7b0
  try clear c7b1
  try clear hx520_0
  try clear hx521_0
  try clear p520
  try clear p521
  try clear q520
  try clear q521
  obtain ⟨kq, x24_1, rfl, HA, HJ1, ⟨mc1, rfl⟩⟩ := hcut
  cases kq with
  | zero => exact absurd HA.out (by simp [quoinref07_Kinds.j0])
  | succ kj1 =>
   have H := HA.out
   clear HA
   simp only [quoinref07_Kinds.j0] at H
   by_cases c8 : x24_1 = true
   ·subst c8
    have H1 : (some false) = some r := by rw [if_pos rfl] at H; exact H
    clear H
    have H := H1
    clear H1
    obtain rfl := Option.some.inj H
    go_wp2
    repeat (go_quiet (fail); try go_wp2)
    go_ret
    exact ⟨Z1, Z4⟩
   ·replace c8 := Bool.eq_false_iff.mpr c8
    subst c8
    have H1 : (quoinref07_Kinds.l0 kj1 l0 0) = some r := by rw [if_neg (show ¬ (false = true) by decide)] at H; exact H
    clear H
    have H := H1
    clear H1
    have H' := Aside0.mk H
    clear H
    go_wp2
    repeat (go_quiet (fail); try go_wp2)
    go_loopg [3] kj1 (fun kq v3 w' => ∃ (x3_2 : Int), v3 = .int .i64 x3_2 ∧ Aside0 (quoinref07_Kinds.l0 kq l0 x3_2 = some r) ∧ Aside0 (kq ≤ kj1) ∧ Drawn0 w w')
    case atStart => exact ⟨(0), Z1, H', ⟨Nat.le_refl _⟩, Z4⟩
    case round =>
     clear H'
     try clear c1
     try clear p2
     try clear c3
     try clear c3b0
     try clear c3b1
     try clear c4
     try clear c4b0
     try clear c4b1
     try clear c5
     try clear c5b0
     try clear c5b1
     try clear p5
     try clear q5
     try clear hx5
     try clear qi5
     try clear c6
     try clear c6b0
     try clear c6b1
     try clear c7
     try clear c7b0
     try clear c7b1
     try clear c8
     try clear hx520_0
     try clear hx521_0
     try clear p2
     try clear p5
     try clear p520
     try clear p521
     try clear q5
     try clear q520
     try clear q521
     obtain ⟨x3_2, rfl, HA, HK2, ⟨m2, rfl⟩⟩ := hrel
     cases gk with
     | zero => exact absurd HA.out (by simp [quoinref07_Kinds.l0])
     | succ k2 =>
      have H := HA.out
      clear HA
      simp only [quoinref07_Kinds.l0] at H
      by_cases c9 : x3_2 < (l0.length : Int)
      ·rw [if_pos c9] at H
       have c9b0 := decide_eq_true c9
       clear c9
       by_cases c10 : 0 ≤ x3_2
       ·rw [if_pos c10] at H
        have c10b0 := decide_eq_true c10
        clear c10
        replace H := bS H
        obtain ⟨t523, A11, H⟩ := H
        try dsimp only at H
        by_cases c12 : t523 = true
        ·subst c12
         have H1 : (quoinref07_Kinds.l1 k2 l0 x3_2 0) = some r := by rw [if_pos rfl] at H; exact H
         clear H
         have H := H1
         clear H1
         have H' := Aside0.mk H
         clear H
         have p522 : 0 ≤ (x3_2 : Int) := of_decide_eq_true Z3
         have q522 : x3_2 < (l0.length : Int) := of_decide_eq_true Z3
         obtain ⟨ad522, e522, hx522_0⟩ := Kd.at_string HR0.out x3_2 p522 q522
         cases e522
         replace p522 := eq_true p522
         replace q522 := eq_true q522
         go_wp2_with (first | (go_at_call 88; (with_reducible refine (quoinref07_name.calls A11.out).mono ?_); rintro e w' ⟨rfl, ⟨nd, rfl⟩⟩; (try first | exact ⟨rfl, _, World.drewN_drewN _ _ _⟩ | exact ⟨rfl, _, Eq.trans (World.drewN_drewN _ _ _) (congrArg (World.drewN _) (Nat.add_assoc _ _ _))⟩)))
         repeat (go_quiet (first | (go_at_call 88; (with_reducible refine (quoinref07_name.calls A11.out).mono ?_); rintro e w' ⟨rfl, ⟨nd, rfl⟩⟩; (try first | exact ⟨rfl, _, World.drewN_drewN _ _ _⟩ | exact ⟨rfl, _, Eq.trans (World.drewN_drewN _ _ _) (congrArg (World.drewN _) (Nat.add_assoc _ _ _))⟩))); try go_wp2_with (first | (go_at_call 88; (with_reducible refine (quoinref07_name.calls A11.out).mono ?_); rintro e w' ⟨rfl, ⟨nd, rfl⟩⟩; (try first | exact ⟨rfl, _, World.drewN_drewN _ _ _⟩ | exact ⟨rfl, _, Eq.trans (World.drewN_drewN _ _ _) (congrArg (World.drewN _) (Nat.add_assoc _ _ _))⟩))))
         go_loopg [4] k2 (fun kq v4 w' => ∃ (x4_3 : Int), v4 = .int .i64 x4_3 ∧ Aside0 (quoinref07_Kinds.l1 kq l0 x3_2 x4_3 = some r) ∧ Aside0 (kq ≤ k2) ∧ Drawn0 w w')
         case atStart => exact ⟨(0), Z1, H', ⟨Nat.le_refl _⟩, Z4⟩
         case round =>
          clear H'
          try clear c1
          try clear p2
          try clear c3
          try clear c3b0
          try clear c3b1
          try clear c4
          try clear c4b0
          try clear c4b1
          try clear c5
          try clear c5b0
          try clear c5b1
          try clear p5
          try clear q5
          try clear hx5
          try clear qi5
          try clear c6
          try clear c6b0
          try clear c6b1
          try clear c7
          try clear c7b0
          try clear c7b1
          try clear c8
          try clear c9
          try clear c9b0
          try clear c10
          try clear c10b0
          try clear c12
          try clear hx520_0
          try clear hx521_0
          try clear hx522_0
          try clear p2
          try clear p5
          try clear p520
          try clear p521
          try clear p522
          try clear q5
          try clear q520
          try clear q521
          try clear q522
          obtain ⟨x4_3, rfl, HA, HK3, ⟨m3, rfl⟩⟩ := hrel
          cases gk with
          | zero => exact absurd HA.out (by simp [quoinref07_Kinds.l1])
          | succ k3 =>
           have H := HA.out
           clear HA
           simp only [quoinref07_Kinds.l1] at H
           by_cases c13 : x4_3 < x3_2
           ·rw [if_pos c13] at H
            have c13b0 := decide_eq_true c13
            clear c13
            by_cases c14 : 0 ≤ x4_3
            ·rw [if_pos c14] at H
             have c14b0 := decide_eq_true c14
             clear c14
             by_cases c15 : x4_3 < (l0.length : Int)
             ·rw [if_pos c15] at H
              have c15b0 := decide_eq_true c15
              clear c15
              by_cases c16 : 0 ≤ x3_2
              ·rw [if_pos c16] at H
               have c16b0 := decide_eq_true c16
               clear c16
               by_cases c17 : x3_2 < (l0.length : Int)
               ·rw [if_pos c17] at H
                have c17b0 := decide_eq_true c17
                clear c17
                by_cases c18 : (rdOf ByteArray.empty l0 x4_3).toList = (rdOf ByteArray.empty l0 x3_2).toList
                ·rw [if_pos c18] at H
                 have c18b0 := e1 c18
                 have c18b1 := e2 c18
                 clear c18
                 obtain rfl := Option.some.inj H
                 have p524 : 0 ≤ (x4_3 : Int) := of_decide_eq_true Z3
                 have q524 : x4_3 < (l0.length : Int) := of_decide_eq_true Z3
                 obtain ⟨ad524, e524, hx524_0⟩ := Kd.at_string HR0.out x4_3 p524 q524
                 obtain rfl : ad522 = ad524 := (by injection e524)
                 replace p524 := eq_true p524
                 replace q524 := eq_true q524
                 have p525 : 0 ≤ (x3_2 : Int) := of_decide_eq_true Z3
                 have q525 : x3_2 < (l0.length : Int) := of_decide_eq_true Z3
                 obtain ⟨ad525, e525, hx525_0⟩ := Kd.at_string HR0.out x3_2 p525 q525
                 obtain rfl : ad522 = ad525 := (by injection e525)
                 replace p525 := eq_true p525
                 replace q525 := eq_true q525
                 go_wp2
                 repeat (go_quiet (fail); try go_wp2)
                 go_ret
                 exact ⟨Z1, Z4⟩
                ·rw [if_neg c18] at H
                 have c18b0 := e3 c18
                 have c18b1 := e4 c18
                 have H' := Aside0.mk H
                 clear H
                 have p524 : 0 ≤ (x4_3 : Int) := of_decide_eq_true Z3
                 have q524 : x4_3 < (l0.length : Int) := of_decide_eq_true Z3
                 obtain ⟨ad524, e524, hx524_0⟩ := Kd.at_string HR0.out x4_3 p524 q524
                 obtain rfl : ad522 = ad524 := (by injection e524)
                 replace p524 := eq_true p524
                 replace q524 := eq_true q524
                 have p525 : 0 ≤ (x3_2 : Int) := of_decide_eq_true Z3
                 have q525 : x3_2 < (l0.length : Int) := of_decide_eq_true Z3
                 obtain ⟨ad525, e525, hx525_0⟩ := Kd.at_string HR0.out x3_2 p525 q525
                 obtain rfl : ad522 = ad525 := (by injection e525)
                 replace p525 := eq_true p525
                 replace q525 := eq_true q525
                 go_wp2
                 repeat (go_quiet (fail); try go_wp2)
                 go_roundg k3
                 case measure => have := HJ1.out; have := HK2.out; have := HK3.out; omega
                 case rel => exact ⟨(wrap64 (x4_3 + 1)), Z1, H', ⟨by have := HJ1.out; have := HK2.out; have := HK3.out; omega⟩, Z4⟩
               ·rw [if_neg c17] at H
                exact absurd H Z61
              ·rw [if_neg c16] at H
               exact absurd H Z61
             ·rw [if_neg c15] at H
              exact absurd H Z61
            ·rw [if_neg c14] at H
             exact absurd H Z61
           ·rw [if_neg c13] at H
            have c13b0 := decide_eq_false c13
            clear c13
            have H' := Aside0.mk H
            clear H
            go_wp2
            repeat (go_quiet (fail); try go_wp2)
            go_roundg k3
            case measure => have := HJ1.out; have := HK2.out; have := HK3.out; omega
            case rel => exact ⟨(wrap64 (x3_2 + 1)), Z1, H', ⟨by have := HJ1.out; have := HK2.out; have := HK3.out; omega⟩, Z4⟩
        ·replace c12 := Bool.eq_false_iff.mpr c12
         subst c12
         have H1 : (some false) = some r := by rw [if_neg (show ¬ (false = true) by decide)] at H; exact H
         clear H
         have H := H1
         clear H1
         obtain rfl := Option.some.inj H
         have p522 : 0 ≤ (x3_2 : Int) := of_decide_eq_true Z3
         have q522 : x3_2 < (l0.length : Int) := of_decide_eq_true Z3
         obtain ⟨ad522, e522, hx522_0⟩ := Kd.at_string HR0.out x3_2 p522 q522
         cases e522
         replace p522 := eq_true p522
         replace q522 := eq_true q522
         go_wp2_with (first | (go_at_call 88; (with_reducible refine (quoinref07_name.calls A11.out).mono ?_); rintro e w' ⟨rfl, ⟨nd, rfl⟩⟩; (try first | exact ⟨rfl, _, World.drewN_drewN _ _ _⟩ | exact ⟨rfl, _, Eq.trans (World.drewN_drewN _ _ _) (congrArg (World.drewN _) (Nat.add_assoc _ _ _))⟩)))
         repeat (go_quiet (first | (go_at_call 88; (with_reducible refine (quoinref07_name.calls A11.out).mono ?_); rintro e w' ⟨rfl, ⟨nd, rfl⟩⟩; (try first | exact ⟨rfl, _, World.drewN_drewN _ _ _⟩ | exact ⟨rfl, _, Eq.trans (World.drewN_drewN _ _ _) (congrArg (World.drewN _) (Nat.add_assoc _ _ _))⟩))); try go_wp2_with (first | (go_at_call 88; (with_reducible refine (quoinref07_name.calls A11.out).mono ?_); rintro e w' ⟨rfl, ⟨nd, rfl⟩⟩; (try first | exact ⟨rfl, _, World.drewN_drewN _ _ _⟩ | exact ⟨rfl, _, Eq.trans (World.drewN_drewN _ _ _) (congrArg (World.drewN _) (Nat.add_assoc _ _ _))⟩))))
         go_ret
         exact ⟨Z1, Z4⟩
       ·rw [if_neg c10] at H
        exact absurd H Z61
      ·rw [if_neg c9] at H
       have c9b0 := decide_eq_false c9
       clear c9
       obtain rfl := Option.some.inj H
       go_wp2
       repeat (go_quiet (fail); try go_wp2)
       go_ret
       exact ⟨Z1, Z4⟩
def quoinref07_right.f (a0 : Int) (a1 : ByteArray) (l2 : List (S36)) (a3 : Int) : Option (Bool) := if 0 ≤ a3 then (if a3 < (l2.length : Int) then (if a3 > 0 then (if 0 ≤ (wrap64 (a3 - 1)) then (if (wrap64 (a3 - 1)) < (l2.length : Int) then (if ((rd_T36 l2 a3).f0) ≥ 2 then (if ((rd_T36 l2 a3).f0) < a0 then (if ((rd_T36 l2 a3).f1) ≥ ((rd_T36 l2 (wrap64 (a3 - 1))).f2) then (if ((rd_T36 l2 a3).f1) ≤ ((rd_T36 l2 a3).f2) then (some (decide (((rd_T36 l2 a3).f2) ≤ (a1.size : Int)))) else (some false)) else (some false)) else (some false)) else (some false)) else (none)) else (none)) else (if ((rd_T36 l2 a3).f0) ≥ 2 then (if ((rd_T36 l2 a3).f0) < a0 then (if ((rd_T36 l2 a3).f1) ≥ 0 then (if ((rd_T36 l2 a3).f1) ≤ ((rd_T36 l2 a3).f2) then (some (decide (((rd_T36 l2 a3).f2) ≤ (a1.size : Int)))) else (some false)) else (some false)) else (some false)) else (some false))) else (none)) else (none)
set_option maxHeartbeats 8000000 in
set_option maxRecDepth 100000 in
theorem quoinref07_right.calls (a0 : Int) (a1 : ByteArray) (A2 : Option Addr) (c2 : Nat) (l2 : List (S36)) (a3 : Int) (r : Bool) (w : World) (hr2 : Kd.C k36 w A2 l2.length l2) (hc2 : l2.length ≤ c2) (h : quoinref07_right.f a0 a1 l2 a3 = some r) :
  Calls Try.prog 65 #[.int .i64 a0, .string a1, .slice A2 l2.length c2, .int .i64 a3] w fun e w' => e = .returned (.bool r) ∧ Below w.heap.size w w' := by
 have hu36 := Try.underlying36
 have HR2 := Aside0.mk hr2
 have HC2 := Aside0.mk hc2
 clear hr2 hc2
 have HB := Aside0.mk (Below.refl w.heap.size w)
 have H : (if 0 ≤ a3 then (if a3 < (l2.length : Int) then (if a3 > 0 then (if 0 ≤ (wrap64 (a3 - 1)) then (if (wrap64 (a3 - 1)) < (l2.length : Int) then (if ((rd_T36 l2 a3).f0) ≥ 2 then (if ((rd_T36 l2 a3).f0) < a0 then (if ((rd_T36 l2 a3).f1) ≥ ((rd_T36 l2 (wrap64 (a3 - 1))).f2) then (if ((rd_T36 l2 a3).f1) ≤ ((rd_T36 l2 a3).f2) then (some (decide (((rd_T36 l2 a3).f2) ≤ (a1.size : Int)))) else (some false)) else (some false)) else (some false)) else (some false)) else (none)) else (none)) else (if ((rd_T36 l2 a3).f0) ≥ 2 then (if ((rd_T36 l2 a3).f0) < a0 then (if ((rd_T36 l2 a3).f1) ≥ 0 then (if ((rd_T36 l2 a3).f1) ≤ ((rd_T36 l2 a3).f2) then (some (decide (((rd_T36 l2 a3).f2) ≤ (a1.size : Int)))) else (some false)) else (some false)) else (some false)) else (some false))) else (none)) else (none)) = some r := h
 clear h
 by_cases c5 : 0 ≤ a3
 ·rw [if_pos c5] at H
  have c5b0 := decide_eq_true c5
  clear c5
  by_cases c6 : a3 < (l2.length : Int)
  ·rw [if_pos c6] at H
   have c6b0 := decide_eq_true c6
   clear c6
   by_cases c7 : a3 > 0
   ·rw [if_pos c7] at H
    have c7b0 : decide (0 < a3) = true := decide_eq_true c7
    clear c7
    obtain ⟨ji8, hji8⟩ : ∃ j_ : Int, (wrap64 (a3 - 1)) = j_ := ⟨_, rfl⟩
    replace H : (if 0 ≤ (ji8) then (if (ji8) < (l2.length : Int) then (if ((rd_T36 l2 a3).f0) ≥ 2 then (if ((rd_T36 l2 a3).f0) < a0 then (if ((rd_T36 l2 a3).f1) ≥ ((rd_T36 l2 (ji8)).f2) then (if ((rd_T36 l2 a3).f1) ≤ ((rd_T36 l2 a3).f2) then (some (decide (((rd_T36 l2 a3).f2) ≤ (a1.size : Int)))) else (some false)) else (some false)) else (some false)) else (some false)) else (none)) else (none)) = some r := by first | (rw [hji8] at H; exact H) | (simp only [hji8] at H ⊢; exact H)
    have hji8w : (IntKind.i64.wrap (a3 - 1)) = ji8 := (i64_w _).trans hji8
    by_cases c9 : 0 ≤ (ji8)
    ·rw [if_pos c9] at H
     have c9b0 := decide_eq_true c9
     clear c9
     by_cases c10 : (ji8) < (l2.length : Int)
     ·rw [if_pos c10] at H
      have c10b0 := decide_eq_true c10
      clear c10
      by_cases c11 : ((rd_T36 l2 a3).f0) ≥ 2
      ·rw [if_pos c11] at H
       have c11b0 : decide (2 ≤ ((rd_T36 l2 a3).f0)) = true := decide_eq_true c11
       clear c11
       by_cases c12 : ((rd_T36 l2 a3).f0) < a0
       ·rw [if_pos c12] at H
        have c12b0 := decide_eq_true c12
        clear c12
        by_cases c13 : ((rd_T36 l2 a3).f1) ≥ ((rd_T36 l2 (ji8)).f2)
        ·rw [if_pos c13] at H
         have c13b0 : decide (((rd_T36 l2 (ji8)).f2) ≤ ((rd_T36 l2 a3).f1)) = true := decide_eq_true c13
         clear c13
         by_cases c14 : ((rd_T36 l2 a3).f1) ≤ ((rd_T36 l2 a3).f2)
         ·rw [if_pos c14] at H
          have c14b0 := decide_eq_true c14
          clear c14
          obtain rfl := Option.some.inj H
          have p526 : 0 ≤ (a3 : Int) := of_decide_eq_true Z3
          have q526 : a3 < (l2.length : Int) := of_decide_eq_true Z3
          obtain ⟨ad526, e526, hx526_0, hx526_1, hx526_2⟩ := at_T36 HR2.out a3 p526 q526
          cases e526
          replace p526 := eq_true p526
          replace q526 := eq_true q526
          go_enter Try.func65, Try.ntmps65
          go_wp2_with (first | ((with_reducible refine gate_dst (N := 9) rfl ?_); (try (refine gate_guard Z67 ?_; dsimp only)); refine box_event ?hg (N := 9) ?hd (cs := #[.int .i64 0, .int .i64 0, .int .i64 0]) (t := 36) ?hr ?_; (case hd => rfl); (case hg => rfl); (case hr => first | (go_simp; done) | (go_simp; rfl)); intro gb527 hg w15 hbox hb; have BK527 := Aside0.mk (hbox); have GW527 := gE hg zB; have GE527 := gE hg zB; replace HB := Aside0.mk (below_step zB hb); clear hb hbox hg; have hcz16_0 := bC BK527 0 (.int .i64 0); have hcz16_1 := bC BK527 1 (.int .i64 0); have hcz16_2 := bC BK527 2 (.int .i64 0); have hfz16_0 := blk_frozen BK527.out 0; have hfz16_1 := blk_frozen BK527.out 1; have hfz16_2 := blk_frozen BK527.out 2; have p528 : 0 ≤ ((ji8) : Int) := of_decide_eq_true Z3; have q528 : (ji8) < (l2.length : Int) := of_decide_eq_true Z3; obtain ⟨ad528, e528, hx528_0, hx528_1, hx528_2⟩ := at_T36 HR2.out (ji8) p528 q528; obtain rfl : ad526 = ad528 := (by injection e528); have hn528_0 : ad526.block ≠ gb527 := Nat.ne_of_lt (Nat.lt_of_lt_of_le Z35 GW527.out); have hn528_1 : ad526.block ≠ gb527 := Nat.ne_of_lt (Nat.lt_of_lt_of_le Z35 GW527.out); have hn528_2 : ad526.block ≠ gb527 := Nat.ne_of_lt (Nat.lt_of_lt_of_le Z35 GW527.out); replace hx528_0 := (HB.out.cell (World.block_lt_of_cell? w _ hx528_0)).trans hx528_0; replace hx528_1 := (HB.out.cell (World.block_lt_of_cell? w _ hx528_1)).trans hx528_1; replace hx528_2 := (HB.out.cell (World.block_lt_of_cell? w _ hx528_2)).trans hx528_2; replace hx528_0 := (cell_far (p := ⟨gb527, 0, none⟩) Z23 (.int .i64 ((rd_T36 l2 a3).f0))).trans hx528_0; replace hx528_1 := (cell_far (p := ⟨gb527, 0, none⟩) Z23 (.int .i64 ((rd_T36 l2 a3).f0))).trans hx528_1; replace hx528_2 := (cell_far (p := ⟨gb527, 0, none⟩) Z23 (.int .i64 ((rd_T36 l2 a3).f0))).trans hx528_2; replace hx528_0 := (cell_far (p := ⟨gb527, 1, none⟩) Z22 (.int .i64 ((rd_T36 l2 a3).f1))).trans hx528_0; replace hx528_1 := (cell_far (p := ⟨gb527, 1, none⟩) Z22 (.int .i64 ((rd_T36 l2 a3).f1))).trans hx528_1; replace hx528_2 := (cell_far (p := ⟨gb527, 1, none⟩) Z22 (.int .i64 ((rd_T36 l2 a3).f1))).trans hx528_2; replace hx528_0 := (cell_far (p := ⟨gb527, 2, none⟩) Z21 (.int .i64 ((rd_T36 l2 a3).f2))).trans hx528_0; replace hx528_1 := (cell_far (p := ⟨gb527, 2, none⟩) Z21 (.int .i64 ((rd_T36 l2 a3).f2))).trans hx528_1; replace hx528_2 := (cell_far (p := ⟨gb527, 2, none⟩) Z21 (.int .i64 ((rd_T36 l2 a3).f2))).trans hx528_2; clear hn528_0; clear hn528_1; clear hn528_2; replace p528 := eq_true p528; replace q528 := eq_true q528))
          go_ret
          exact ⟨Z44, Z0⟩
         ·rw [if_neg c14] at H
          have c14b0 := decide_eq_false c14
          clear c14
          obtain rfl := Option.some.inj H
          have p526 : 0 ≤ (a3 : Int) := of_decide_eq_true Z3
          have q526 : a3 < (l2.length : Int) := of_decide_eq_true Z3
          obtain ⟨ad526, e526, hx526_0, hx526_1, hx526_2⟩ := at_T36 HR2.out a3 p526 q526
          cases e526
          replace p526 := eq_true p526
          replace q526 := eq_true q526
          go_enter Try.func65, Try.ntmps65
          go_wp2_with (first | ((with_reducible refine gate_dst (N := 9) rfl ?_); (try (refine gate_guard Z67 ?_; dsimp only)); refine box_event ?hg (N := 9) ?hd (cs := #[.int .i64 0, .int .i64 0, .int .i64 0]) (t := 36) ?hr ?_; (case hd => rfl); (case hg => rfl); (case hr => first | (go_simp; done) | (go_simp; rfl)); intro gb527 hg w17 hbox hb; have BK527 := Aside0.mk (hbox); have GW527 := gE hg zB; have GE527 := gE hg zB; replace HB := Aside0.mk (below_step zB hb); clear hb hbox hg; have hcz18_0 := bC BK527 0 (.int .i64 0); have hcz18_1 := bC BK527 1 (.int .i64 0); have hcz18_2 := bC BK527 2 (.int .i64 0); have hfz18_0 := blk_frozen BK527.out 0; have hfz18_1 := blk_frozen BK527.out 1; have hfz18_2 := blk_frozen BK527.out 2; have p528 : 0 ≤ ((ji8) : Int) := of_decide_eq_true Z3; have q528 : (ji8) < (l2.length : Int) := of_decide_eq_true Z3; obtain ⟨ad528, e528, hx528_0, hx528_1, hx528_2⟩ := at_T36 HR2.out (ji8) p528 q528; obtain rfl : ad526 = ad528 := (by injection e528); have hn528_0 : ad526.block ≠ gb527 := Nat.ne_of_lt (Nat.lt_of_lt_of_le Z35 GW527.out); have hn528_1 : ad526.block ≠ gb527 := Nat.ne_of_lt (Nat.lt_of_lt_of_le Z35 GW527.out); have hn528_2 : ad526.block ≠ gb527 := Nat.ne_of_lt (Nat.lt_of_lt_of_le Z35 GW527.out); replace hx528_0 := (HB.out.cell (World.block_lt_of_cell? w _ hx528_0)).trans hx528_0; replace hx528_1 := (HB.out.cell (World.block_lt_of_cell? w _ hx528_1)).trans hx528_1; replace hx528_2 := (HB.out.cell (World.block_lt_of_cell? w _ hx528_2)).trans hx528_2; replace hx528_0 := (cell_far (p := ⟨gb527, 0, none⟩) Z23 (.int .i64 ((rd_T36 l2 a3).f0))).trans hx528_0; replace hx528_1 := (cell_far (p := ⟨gb527, 0, none⟩) Z23 (.int .i64 ((rd_T36 l2 a3).f0))).trans hx528_1; replace hx528_2 := (cell_far (p := ⟨gb527, 0, none⟩) Z23 (.int .i64 ((rd_T36 l2 a3).f0))).trans hx528_2; replace hx528_0 := (cell_far (p := ⟨gb527, 1, none⟩) Z22 (.int .i64 ((rd_T36 l2 a3).f1))).trans hx528_0; replace hx528_1 := (cell_far (p := ⟨gb527, 1, none⟩) Z22 (.int .i64 ((rd_T36 l2 a3).f1))).trans hx528_1; replace hx528_2 := (cell_far (p := ⟨gb527, 1, none⟩) Z22 (.int .i64 ((rd_T36 l2 a3).f1))).trans hx528_2; replace hx528_0 := (cell_far (p := ⟨gb527, 2, none⟩) Z21 (.int .i64 ((rd_T36 l2 a3).f2))).trans hx528_0; replace hx528_1 := (cell_far (p := ⟨gb527, 2, none⟩) Z21 (.int .i64 ((rd_T36 l2 a3).f2))).trans hx528_1; replace hx528_2 := (cell_far (p := ⟨gb527, 2, none⟩) Z21 (.int .i64 ((rd_T36 l2 a3).f2))).trans hx528_2; clear hn528_0; clear hn528_1; clear hn528_2; replace p528 := eq_true p528; replace q528 := eq_true q528))
          go_ret
          exact ⟨Z44, Z0⟩
        ·rw [if_neg c13] at H
         have c13b0 : decide (((rd_T36 l2 (ji8)).f2) ≤ ((rd_T36 l2 a3).f1)) = false := decide_eq_false c13
         clear c13
         obtain rfl := Option.some.inj H
         have p526 : 0 ≤ (a3 : Int) := of_decide_eq_true Z3
         have q526 : a3 < (l2.length : Int) := of_decide_eq_true Z3
         obtain ⟨ad526, e526, hx526_0, hx526_1, hx526_2⟩ := at_T36 HR2.out a3 p526 q526
         cases e526
         replace p526 := eq_true p526
         replace q526 := eq_true q526
         go_enter Try.func65, Try.ntmps65
         go_wp2_with (first | ((with_reducible refine gate_dst (N := 9) rfl ?_); (try (refine gate_guard Z67 ?_; dsimp only)); refine box_event ?hg (N := 9) ?hd (cs := #[.int .i64 0, .int .i64 0, .int .i64 0]) (t := 36) ?hr ?_; (case hd => rfl); (case hg => rfl); (case hr => first | (go_simp; done) | (go_simp; rfl)); intro gb527 hg w19 hbox hb; have BK527 := Aside0.mk (hbox); have GW527 := gE hg zB; have GE527 := gE hg zB; replace HB := Aside0.mk (below_step zB hb); clear hb hbox hg; have hcz20_0 := bC BK527 0 (.int .i64 0); have hcz20_1 := bC BK527 1 (.int .i64 0); have hcz20_2 := bC BK527 2 (.int .i64 0); have hfz20_0 := blk_frozen BK527.out 0; have hfz20_1 := blk_frozen BK527.out 1; have hfz20_2 := blk_frozen BK527.out 2; have p528 : 0 ≤ ((ji8) : Int) := of_decide_eq_true Z3; have q528 : (ji8) < (l2.length : Int) := of_decide_eq_true Z3; obtain ⟨ad528, e528, hx528_0, hx528_1, hx528_2⟩ := at_T36 HR2.out (ji8) p528 q528; obtain rfl : ad526 = ad528 := (by injection e528); have hn528_0 : ad526.block ≠ gb527 := Nat.ne_of_lt (Nat.lt_of_lt_of_le Z35 GW527.out); have hn528_1 : ad526.block ≠ gb527 := Nat.ne_of_lt (Nat.lt_of_lt_of_le Z35 GW527.out); have hn528_2 : ad526.block ≠ gb527 := Nat.ne_of_lt (Nat.lt_of_lt_of_le Z35 GW527.out); replace hx528_0 := (HB.out.cell (World.block_lt_of_cell? w _ hx528_0)).trans hx528_0; replace hx528_1 := (HB.out.cell (World.block_lt_of_cell? w _ hx528_1)).trans hx528_1; replace hx528_2 := (HB.out.cell (World.block_lt_of_cell? w _ hx528_2)).trans hx528_2; replace hx528_0 := (cell_far (p := ⟨gb527, 0, none⟩) Z23 (.int .i64 ((rd_T36 l2 a3).f0))).trans hx528_0; replace hx528_1 := (cell_far (p := ⟨gb527, 0, none⟩) Z23 (.int .i64 ((rd_T36 l2 a3).f0))).trans hx528_1; replace hx528_2 := (cell_far (p := ⟨gb527, 0, none⟩) Z23 (.int .i64 ((rd_T36 l2 a3).f0))).trans hx528_2; replace hx528_0 := (cell_far (p := ⟨gb527, 1, none⟩) Z22 (.int .i64 ((rd_T36 l2 a3).f1))).trans hx528_0; replace hx528_1 := (cell_far (p := ⟨gb527, 1, none⟩) Z22 (.int .i64 ((rd_T36 l2 a3).f1))).trans hx528_1; replace hx528_2 := (cell_far (p := ⟨gb527, 1, none⟩) Z22 (.int .i64 ((rd_T36 l2 a3).f1))).trans hx528_2; replace hx528_0 := (cell_far (p := ⟨gb527, 2, none⟩) Z21 (.int .i64 ((rd_T36 l2 a3).f2))).trans hx528_0; replace hx528_1 := (cell_far (p := ⟨gb527, 2, none⟩) Z21 (.int .i64 ((rd_T36 l2 a3).f2))).trans hx528_1; replace hx528_2 := (cell_far (p := ⟨gb527, 2, none⟩) Z21 (.int .i64 ((rd_T36 l2 a3).f2))).trans hx528_2; clear hn528_0; clear hn528_1; clear hn528_2; replace p528 := eq_true p528; replace q528 := eq_true q528))
         go_ret
         exact ⟨Z44, Z0⟩
       ·rw [if_neg c12] at H
        have c12b0 := decide_eq_false c12
        clear c12
        obtain rfl := Option.some.inj H
        have p526 : 0 ≤ (a3 : Int) := of_decide_eq_true Z3
        have q526 : a3 < (l2.length : Int) := of_decide_eq_true Z3
        obtain ⟨ad526, e526, hx526_0, hx526_1, hx526_2⟩ := at_T36 HR2.out a3 p526 q526
        cases e526
        replace p526 := eq_true p526
        replace q526 := eq_true q526
        go_enter Try.func65, Try.ntmps65
        go_wp2_with (first | ((with_reducible refine gate_dst (N := 9) rfl ?_); (try (refine gate_guard Z67 ?_; dsimp only)); refine box_event ?hg (N := 9) ?hd (cs := #[.int .i64 0, .int .i64 0, .int .i64 0]) (t := 36) ?hr ?_; (case hd => rfl); (case hg => rfl); (case hr => first | (go_simp; done) | (go_simp; rfl)); intro gb527 hg w21 hbox hb; have BK527 := Aside0.mk (hbox); have GW527 := gE hg zB; have GE527 := gE hg zB; replace HB := Aside0.mk (below_step zB hb); clear hb hbox hg; have hcz22_0 := bC BK527 0 (.int .i64 0); have hcz22_1 := bC BK527 1 (.int .i64 0); have hcz22_2 := bC BK527 2 (.int .i64 0); have hfz22_0 := blk_frozen BK527.out 0; have hfz22_1 := blk_frozen BK527.out 1; have hfz22_2 := blk_frozen BK527.out 2; have p528 : 0 ≤ ((ji8) : Int) := of_decide_eq_true Z3; have q528 : (ji8) < (l2.length : Int) := of_decide_eq_true Z3; obtain ⟨ad528, e528, hx528_0, hx528_1, hx528_2⟩ := at_T36 HR2.out (ji8) p528 q528; obtain rfl : ad526 = ad528 := (by injection e528); have hn528_0 : ad526.block ≠ gb527 := Nat.ne_of_lt (Nat.lt_of_lt_of_le Z35 GW527.out); have hn528_1 : ad526.block ≠ gb527 := Nat.ne_of_lt (Nat.lt_of_lt_of_le Z35 GW527.out); have hn528_2 : ad526.block ≠ gb527 := Nat.ne_of_lt (Nat.lt_of_lt_of_le Z35 GW527.out); replace hx528_0 := (HB.out.cell (World.block_lt_of_cell? w _ hx528_0)).trans hx528_0; replace hx528_1 := (HB.out.cell (World.block_lt_of_cell? w _ hx528_1)).trans hx528_1; replace hx528_2 := (HB.out.cell (World.block_lt_of_cell? w _ hx528_2)).trans hx528_2; replace hx528_0 := (cell_far (p := ⟨gb527, 0, none⟩) Z23 (.int .i64 ((rd_T36 l2 a3).f0))).trans hx528_0; replace hx528_1 := (cell_far (p := ⟨gb527, 0, none⟩) Z23 (.int .i64 ((rd_T36 l2 a3).f0))).trans hx528_1; replace hx528_2 := (cell_far (p := ⟨gb527, 0, none⟩) Z23 (.int .i64 ((rd_T36 l2 a3).f0))).trans hx528_2; replace hx528_0 := (cell_far (p := ⟨gb527, 1, none⟩) Z22 (.int .i64 ((rd_T36 l2 a3).f1))).trans hx528_0; replace hx528_1 := (cell_far (p := ⟨gb527, 1, none⟩) Z22 (.int .i64 ((rd_T36 l2 a3).f1))).trans hx528_1; replace hx528_2 := (cell_far (p := ⟨gb527, 1, none⟩) Z22 (.int .i64 ((rd_T36 l2 a3).f1))).trans hx528_2; replace hx528_0 := (cell_far (p := ⟨gb527, 2, none⟩) Z21 (.int .i64 ((rd_T36 l2 a3).f2))).trans hx528_0; replace hx528_1 := (cell_far (p := ⟨gb527, 2, none⟩) Z21 (.int .i64 ((rd_T36 l2 a3).f2))).trans hx528_1; replace hx528_2 := (cell_far (p := ⟨gb527, 2, none⟩) Z21 (.int .i64 ((rd_T36 l2 a3).f2))).trans hx528_2; clear hn528_0; clear hn528_1; clear hn528_2; replace p528 := eq_true p528; replace q528 := eq_true q528))
        go_ret
        exact ⟨Z44, Z0⟩
      ·rw [if_neg c11] at H
       have c11b0 : decide (2 ≤ ((rd_T36 l2 a3).f0)) = false := decide_eq_false c11
       clear c11
       obtain rfl := Option.some.inj H
       have p526 : 0 ≤ (a3 : Int) := of_decide_eq_true Z3
       have q526 : a3 < (l2.length : Int) := of_decide_eq_true Z3
       obtain ⟨ad526, e526, hx526_0, hx526_1, hx526_2⟩ := at_T36 HR2.out a3 p526 q526
       cases e526
       replace p526 := eq_true p526
       replace q526 := eq_true q526
       go_enter Try.func65, Try.ntmps65
       go_wp2_with (first | ((with_reducible refine gate_dst (N := 9) rfl ?_); (try (refine gate_guard Z67 ?_; dsimp only)); refine box_event ?hg (N := 9) ?hd (cs := #[.int .i64 0, .int .i64 0, .int .i64 0]) (t := 36) ?hr ?_; (case hd => rfl); (case hg => rfl); (case hr => first | (go_simp; done) | (go_simp; rfl)); intro gb527 hg w23 hbox hb; have BK527 := Aside0.mk (hbox); have GW527 := gE hg zB; have GE527 := gE hg zB; replace HB := Aside0.mk (below_step zB hb); clear hb hbox hg; have hcz24_0 := bC BK527 0 (.int .i64 0); have hcz24_1 := bC BK527 1 (.int .i64 0); have hcz24_2 := bC BK527 2 (.int .i64 0); have hfz24_0 := blk_frozen BK527.out 0; have hfz24_1 := blk_frozen BK527.out 1; have hfz24_2 := blk_frozen BK527.out 2; have p528 : 0 ≤ ((ji8) : Int) := of_decide_eq_true Z3; have q528 : (ji8) < (l2.length : Int) := of_decide_eq_true Z3; obtain ⟨ad528, e528, hx528_0, hx528_1, hx528_2⟩ := at_T36 HR2.out (ji8) p528 q528; obtain rfl : ad526 = ad528 := (by injection e528); have hn528_0 : ad526.block ≠ gb527 := Nat.ne_of_lt (Nat.lt_of_lt_of_le Z35 GW527.out); have hn528_1 : ad526.block ≠ gb527 := Nat.ne_of_lt (Nat.lt_of_lt_of_le Z35 GW527.out); have hn528_2 : ad526.block ≠ gb527 := Nat.ne_of_lt (Nat.lt_of_lt_of_le Z35 GW527.out); replace hx528_0 := (HB.out.cell (World.block_lt_of_cell? w _ hx528_0)).trans hx528_0; replace hx528_1 := (HB.out.cell (World.block_lt_of_cell? w _ hx528_1)).trans hx528_1; replace hx528_2 := (HB.out.cell (World.block_lt_of_cell? w _ hx528_2)).trans hx528_2; replace hx528_0 := (cell_far (p := ⟨gb527, 0, none⟩) Z23 (.int .i64 ((rd_T36 l2 a3).f0))).trans hx528_0; replace hx528_1 := (cell_far (p := ⟨gb527, 0, none⟩) Z23 (.int .i64 ((rd_T36 l2 a3).f0))).trans hx528_1; replace hx528_2 := (cell_far (p := ⟨gb527, 0, none⟩) Z23 (.int .i64 ((rd_T36 l2 a3).f0))).trans hx528_2; replace hx528_0 := (cell_far (p := ⟨gb527, 1, none⟩) Z22 (.int .i64 ((rd_T36 l2 a3).f1))).trans hx528_0; replace hx528_1 := (cell_far (p := ⟨gb527, 1, none⟩) Z22 (.int .i64 ((rd_T36 l2 a3).f1))).trans hx528_1; replace hx528_2 := (cell_far (p := ⟨gb527, 1, none⟩) Z22 (.int .i64 ((rd_T36 l2 a3).f1))).trans hx528_2; replace hx528_0 := (cell_far (p := ⟨gb527, 2, none⟩) Z21 (.int .i64 ((rd_T36 l2 a3).f2))).trans hx528_0; replace hx528_1 := (cell_far (p := ⟨gb527, 2, none⟩) Z21 (.int .i64 ((rd_T36 l2 a3).f2))).trans hx528_1; replace hx528_2 := (cell_far (p := ⟨gb527, 2, none⟩) Z21 (.int .i64 ((rd_T36 l2 a3).f2))).trans hx528_2; clear hn528_0; clear hn528_1; clear hn528_2; replace p528 := eq_true p528; replace q528 := eq_true q528))
       go_ret
       exact ⟨Z44, Z0⟩
     ·rw [if_neg c10] at H
      exact absurd H Z61
    ·rw [if_neg c9] at H
     exact absurd H Z61
   ·rw [if_neg c7] at H
    have c7b0 : decide (0 < a3) = false := decide_eq_false c7
    clear c7
    by_cases c25 : ((rd_T36 l2 a3).f0) ≥ 2
    ·rw [if_pos c25] at H
     have c25b0 : decide (2 ≤ ((rd_T36 l2 a3).f0)) = true := decide_eq_true c25
     clear c25
     by_cases c26 : ((rd_T36 l2 a3).f0) < a0
     ·rw [if_pos c26] at H
      have c26b0 := decide_eq_true c26
      clear c26
      by_cases c27 : ((rd_T36 l2 a3).f1) ≥ 0
      ·rw [if_pos c27] at H
       have c27b0 : decide (0 ≤ ((rd_T36 l2 a3).f1)) = true := decide_eq_true c27
       clear c27
       by_cases c28 : ((rd_T36 l2 a3).f1) ≤ ((rd_T36 l2 a3).f2)
       ·rw [if_pos c28] at H
        have c28b0 := decide_eq_true c28
        clear c28
        obtain rfl := Option.some.inj H
        have p526 : 0 ≤ (a3 : Int) := of_decide_eq_true Z3
        have q526 : a3 < (l2.length : Int) := of_decide_eq_true Z3
        obtain ⟨ad526, e526, hx526_0, hx526_1, hx526_2⟩ := at_T36 HR2.out a3 p526 q526
        cases e526
        replace p526 := eq_true p526
        replace q526 := eq_true q526
        go_enter Try.func65, Try.ntmps65
        go_wp2_with (first | ((with_reducible refine gate_dst (N := 9) rfl ?_); (try (refine gate_guard Z67 ?_; dsimp only)); refine box_event ?hg (N := 9) ?hd (cs := #[.int .i64 0, .int .i64 0, .int .i64 0]) (t := 36) ?hr ?_; (case hd => rfl); (case hg => rfl); (case hr => first | (go_simp; done) | (go_simp; rfl)); intro gb527 hg w29 hbox hb; have BK527 := Aside0.mk (hbox); have GW527 := gE hg zB; have GE527 := gE hg zB; replace HB := Aside0.mk (below_step zB hb); clear hb hbox hg; have hcz30_0 := bC BK527 0 (.int .i64 0); have hcz30_1 := bC BK527 1 (.int .i64 0); have hcz30_2 := bC BK527 2 (.int .i64 0); have hfz30_0 := blk_frozen BK527.out 0; have hfz30_1 := blk_frozen BK527.out 1; have hfz30_2 := blk_frozen BK527.out 2))
        go_ret
        exact ⟨Z2, Z0⟩
       ·rw [if_neg c28] at H
        have c28b0 := decide_eq_false c28
        clear c28
        obtain rfl := Option.some.inj H
        have p526 : 0 ≤ (a3 : Int) := of_decide_eq_true Z3
        have q526 : a3 < (l2.length : Int) := of_decide_eq_true Z3
        obtain ⟨ad526, e526, hx526_0, hx526_1, hx526_2⟩ := at_T36 HR2.out a3 p526 q526
        cases e526
        replace p526 := eq_true p526
        replace q526 := eq_true q526
        go_enter Try.func65, Try.ntmps65
        go_wp2_with (first | ((with_reducible refine gate_dst (N := 9) rfl ?_); (try (refine gate_guard Z67 ?_; dsimp only)); refine box_event ?hg (N := 9) ?hd (cs := #[.int .i64 0, .int .i64 0, .int .i64 0]) (t := 36) ?hr ?_; (case hd => rfl); (case hg => rfl); (case hr => first | (go_simp; done) | (go_simp; rfl)); intro gb527 hg w31 hbox hb; have BK527 := Aside0.mk (hbox); have GW527 := gE hg zB; have GE527 := gE hg zB; replace HB := Aside0.mk (below_step zB hb); clear hb hbox hg; have hcz32_0 := bC BK527 0 (.int .i64 0); have hcz32_1 := bC BK527 1 (.int .i64 0); have hcz32_2 := bC BK527 2 (.int .i64 0); have hfz32_0 := blk_frozen BK527.out 0; have hfz32_1 := blk_frozen BK527.out 1; have hfz32_2 := blk_frozen BK527.out 2))
        go_ret
        exact ⟨Z2, Z0⟩
      ·rw [if_neg c27] at H
       have c27b0 : decide (0 ≤ ((rd_T36 l2 a3).f1)) = false := decide_eq_false c27
       clear c27
       obtain rfl := Option.some.inj H
       have p526 : 0 ≤ (a3 : Int) := of_decide_eq_true Z3
       have q526 : a3 < (l2.length : Int) := of_decide_eq_true Z3
       obtain ⟨ad526, e526, hx526_0, hx526_1, hx526_2⟩ := at_T36 HR2.out a3 p526 q526
       cases e526
       replace p526 := eq_true p526
       replace q526 := eq_true q526
       go_enter Try.func65, Try.ntmps65
       go_wp2_with (first | ((with_reducible refine gate_dst (N := 9) rfl ?_); (try (refine gate_guard Z67 ?_; dsimp only)); refine box_event ?hg (N := 9) ?hd (cs := #[.int .i64 0, .int .i64 0, .int .i64 0]) (t := 36) ?hr ?_; (case hd => rfl); (case hg => rfl); (case hr => first | (go_simp; done) | (go_simp; rfl)); intro gb527 hg w33 hbox hb; have BK527 := Aside0.mk (hbox); have GW527 := gE hg zB; have GE527 := gE hg zB; replace HB := Aside0.mk (below_step zB hb); clear hb hbox hg; have hcz34_0 := bC BK527 0 (.int .i64 0); have hcz34_1 := bC BK527 1 (.int .i64 0); have hcz34_2 := bC BK527 2 (.int .i64 0); have hfz34_0 := blk_frozen BK527.out 0; have hfz34_1 := blk_frozen BK527.out 1; have hfz34_2 := blk_frozen BK527.out 2))
       go_ret
       exact ⟨Z2, Z0⟩
     ·rw [if_neg c26] at H
      have c26b0 := decide_eq_false c26
      clear c26
      obtain rfl := Option.some.inj H
      have p526 : 0 ≤ (a3 : Int) := of_decide_eq_true Z3
      have q526 : a3 < (l2.length : Int) := of_decide_eq_true Z3
      obtain ⟨ad526, e526, hx526_0, hx526_1, hx526_2⟩ := at_T36 HR2.out a3 p526 q526
      cases e526
      replace p526 := eq_true p526
      replace q526 := eq_true q526
      go_enter Try.func65, Try.ntmps65
      go_wp2_with (first | ((with_reducible refine gate_dst (N := 9) rfl ?_); (try (refine gate_guard Z67 ?_; dsimp only)); refine box_event ?hg (N := 9) ?hd (cs := #[.int .i64 0, .int .i64 0, .int .i64 0]) (t := 36) ?hr ?_; (case hd => rfl); (case hg => rfl); (case hr => first | (go_simp; done) | (go_simp; rfl)); intro gb527 hg w35 hbox hb; have BK527 := Aside0.mk (hbox); have GW527 := gE hg zB; have GE527 := gE hg zB; replace HB := Aside0.mk (below_step zB hb); clear hb hbox hg; have hcz36_0 := bC BK527 0 (.int .i64 0); have hcz36_1 := bC BK527 1 (.int .i64 0); have hcz36_2 := bC BK527 2 (.int .i64 0); have hfz36_0 := blk_frozen BK527.out 0; have hfz36_1 := blk_frozen BK527.out 1; have hfz36_2 := blk_frozen BK527.out 2))
      go_ret
      exact ⟨Z2, Z0⟩
    ·rw [if_neg c25] at H
     have c25b0 : decide (2 ≤ ((rd_T36 l2 a3).f0)) = false := decide_eq_false c25
     clear c25
     obtain rfl := Option.some.inj H
     have p526 : 0 ≤ (a3 : Int) := of_decide_eq_true Z3
     have q526 : a3 < (l2.length : Int) := of_decide_eq_true Z3
     obtain ⟨ad526, e526, hx526_0, hx526_1, hx526_2⟩ := at_T36 HR2.out a3 p526 q526
     cases e526
     replace p526 := eq_true p526
     replace q526 := eq_true q526
     go_enter Try.func65, Try.ntmps65
     go_wp2_with (first | ((with_reducible refine gate_dst (N := 9) rfl ?_); (try (refine gate_guard Z67 ?_; dsimp only)); refine box_event ?hg (N := 9) ?hd (cs := #[.int .i64 0, .int .i64 0, .int .i64 0]) (t := 36) ?hr ?_; (case hd => rfl); (case hg => rfl); (case hr => first | (go_simp; done) | (go_simp; rfl)); intro gb527 hg w37 hbox hb; have BK527 := Aside0.mk (hbox); have GW527 := gE hg zB; have GE527 := gE hg zB; replace HB := Aside0.mk (below_step zB hb); clear hb hbox hg; have hcz38_0 := bC BK527 0 (.int .i64 0); have hcz38_1 := bC BK527 1 (.int .i64 0); have hcz38_2 := bC BK527 2 (.int .i64 0); have hfz38_0 := blk_frozen BK527.out 0; have hfz38_1 := blk_frozen BK527.out 1; have hfz38_2 := blk_frozen BK527.out 2))
     go_ret
     exact ⟨Z2, Z0⟩
  ·rw [if_neg c6] at H
   exact absurd H Z61
 ·rw [if_neg c5] at H
  exact absurd H Z61
end Go.Proofs.Ytcajiapjdlphmaa.H
