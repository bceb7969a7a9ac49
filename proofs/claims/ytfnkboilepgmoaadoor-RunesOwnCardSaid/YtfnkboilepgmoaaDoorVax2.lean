import Derived.Test.YtfnkboilepgmoaaDoorVPre
import Derived.Test.YtfnkboilepgmoaaDoorVax1
namespace Go.Proofs.YtfnkboilepgmoaaDoor.R
open Go.RowKit Go.Proofs.YtfnkboilepgmoaaDoorW.PrintWords Go.Proofs.YtfnkboilepgmoaaDoorW.PrintLast Go.Proofs.YtfnkboilepgmoaaDoorW.PrintMore
attribute [local go_sem] max2_int min2_int max_two min_two max_three min_three max_four min_four
set_option linter.unusedVariables false
set_option linter.unusedSimpArgs false
def quoinref02_holds.l0 : Nat → List (List (S36)) → Int → Int → Int → Int → Option (Bool)
 | 0, _, _, _, _, _ => none
 | k + 1, x0, x1, x2, x7, x8 => if x8 < (x0.length : Int) then (if 0 ≤ x8 then ((quoinref02_Has.f k (rd_L2 x0 x8) x1).bind fun t191 => (if t191 = true then (quoinref02_holds.l0 k x0 x1 x2 (wrap64 (x7 + 1)) (wrap64 (x8 + 1))) else (quoinref02_holds.l0 k x0 x1 x2 x7 (wrap64 (x8 + 1))))) else (none)) else (if x2 = 0 then (some (decide (x7 > 0))) else (if x2 = 1 then (some (x7 == (x0.length : Int))) else (if x2 = 2 then (if 0 < (x0.length : Int) then ((quoinref02_Has.f k (rd_L2 x0 0) x1).bind fun t193 => (if t193 = true then (if 1 < (x0.length : Int) then ((quoinref02_Has.f k (rd_L2 x0 1) x1).bind fun t195 => (some (!t195))) else (none)) else (some false))) else (none)) else (some (x7 == 0)))))
def quoinref02_holds.f (k : Nat) (l0 : List (List (S36))) (a1 : Int) (a2 : Int) : Option (Bool) := quoinref02_holds.l0 k l0 a1 a2 0 0
set_option maxHeartbeats 8000000 in
set_option maxRecDepth 100000 in
theorem quoinref02_holds.calls (k : Nat) (A0 : Option Addr) (c0 : Nat) (l0 : List (List (S36))) (a1 : Int) (a2 : Int) (r : Bool) (w : World) (hr0 : Kd.C (Kd.slice 36 k36) w A0 l0.length l0) (hc0 : l0.length ≤ c0) (h : quoinref02_holds.f k l0 a1 a2 = some r) :
  Calls Tryd.prog 65 #[.slice A0 l0.length c0, .int .i32 a1, .int .i64 a2] w fun e w' => e = .returned (.bool r) ∧ Drawn0 w w' := by
 have HR0 := Aside0.mk hr0
 have HC0 := Aside0.mk hc0
 clear hr0 hc0
 have H : (quoinref02_holds.l0 k l0 a1 a2 0 0) = some r := h
 clear h
 have H' := Aside0.mk H
 clear H
 go_enter Tryd.func65, Tryd.ntmps65
 go_wp2
 go_loopg [7, 8] k (fun kq v7 v8 w' => ∃ (x7_1 : Int) (x8_1 : Int), v7 = .int .i64 x7_1 ∧ v8 = .int .i64 x8_1 ∧ Aside0 (quoinref02_holds.l0 kq l0 a1 a2 x7_1 x8_1 = some r) ∧ Aside0 (kq ≤ k) ∧ Drawn0 w w')
 case atStart => exact ⟨(0), (0), Z3, Z3, H', ⟨Nat.le_refl _⟩, Z7⟩
 case round =>
  clear H'
  try clear p2
  obtain ⟨x7_1, x8_1, rfl, rfl, HA, HK1, ⟨m1, rfl⟩⟩ := hrel
  cases gk with
  | zero => exact absurd HA.out (by simp [quoinref02_holds.l0])
  | succ k1 =>
   have H := HA.out
   clear HA
   simp only [quoinref02_holds.l0] at H
   by_cases c4 : x8_1 < (l0.length : Int)
   ·rw [if_pos c4] at H
    have c4b0 := decide_eq_true c4
    clear c4
    by_cases c5 : 0 ≤ x8_1
    ·rw [if_pos c5] at H
     have c5b0 := decide_eq_true c5
     clear c5
     replace H := bS H
     obtain ⟨t191, A6, H⟩ := H
     try dsimp only at H
     by_cases c7 : t191 = true
     ·subst c7
      have H1 : (quoinref02_holds.l0 k1 l0 a1 a2 (wrap64 (x7_1 + 1)) (wrap64 (x8_1 + 1))) = some r := by rw [if_pos rfl] at H; exact H
      clear H
      have H := H1
      clear H1
      have H' := Aside0.mk H
      clear H
      have p190 : 0 ≤ (x8_1 : Int) := of_decide_eq_true Z0
      have q190 : x8_1 < (l0.length : Int) := of_decide_eq_true Z0
      obtain ⟨ad190, A190_0, c190_0, e190, hx190_0, hl190_0, hi190_0⟩ := at_L2 HR0.out x8_1 p190 q190
      cases e190
      have HR190_0 := Aside0.mk hi190_0
      have HC190_0 := Aside0.mk hl190_0
      clear hi190_0 hl190_0
      replace p190 := eq_true p190
      replace q190 := eq_true q190
      go_wp2_with (first | ((with_reducible refine gC 22 rfl ?_); refine goesL_ (some 20) rfl rfl Tryd.func22 Z14 rfl #[.slice A190_0 (rd_L2 l0 x8_1).length c190_0, .int .i32 a1] rfl Z2 ?_; (with_reducible refine (quoinref02_Has.calls k1 _ _ (rd_L2 l0 x8_1) a1 true _ ?side1 ?side2 A6.out).mono ?_); (case side1 => repeat (first | exact HR190_0.out | (with_reducible refine Kd.C_alloc ?_ _) | (with_reducible refine Kd.C_drewN ?_ _) | (with_reducible refine Kd.C_drew ?_))); (case side2 => exact HC190_0.out); rintro e w' ⟨rfl, ⟨nd, rfl⟩⟩; refine ⟨_, rfl, ?_⟩))
      go_roundg k1
      case measure => have := HK1.out; omega
      case rel => exact ⟨(wrap64 (x7_1 + 1)), (wrap64 (x8_1 + 1)), Z3, Z3, H', ⟨Z23⟩, Z7⟩
     ·replace c7 := Bool.eq_false_iff.mpr c7
      subst c7
      have H1 : (quoinref02_holds.l0 k1 l0 a1 a2 x7_1 (wrap64 (x8_1 + 1))) = some r := by rw [if_neg (show ¬ (false = true) by decide)] at H; exact H
      clear H
      have H := H1
      clear H1
      have H' := Aside0.mk H
      clear H
      have p190 : 0 ≤ (x8_1 : Int) := of_decide_eq_true Z0
      have q190 : x8_1 < (l0.length : Int) := of_decide_eq_true Z0
      obtain ⟨ad190, A190_0, c190_0, e190, hx190_0, hl190_0, hi190_0⟩ := at_L2 HR0.out x8_1 p190 q190
      cases e190
      have HR190_0 := Aside0.mk hi190_0
      have HC190_0 := Aside0.mk hl190_0
      clear hi190_0 hl190_0
      replace p190 := eq_true p190
      replace q190 := eq_true q190
      go_wp2_with (first | ((with_reducible refine gC 22 rfl ?_); refine goesL_ (some 20) rfl rfl Tryd.func22 Z14 rfl #[.slice A190_0 (rd_L2 l0 x8_1).length c190_0, .int .i32 a1] rfl Z2 ?_; (with_reducible refine (quoinref02_Has.calls k1 _ _ (rd_L2 l0 x8_1) a1 false _ ?side1 ?side2 A6.out).mono ?_); (case side1 => repeat (first | exact HR190_0.out | (with_reducible refine Kd.C_alloc ?_ _) | (with_reducible refine Kd.C_drewN ?_ _) | (with_reducible refine Kd.C_drew ?_))); (case side2 => exact HC190_0.out); rintro e w' ⟨rfl, ⟨nd, rfl⟩⟩; refine ⟨_, rfl, ?_⟩))
      go_roundg k1
      case measure => have := HK1.out; omega
      case rel => exact ⟨(x7_1), (wrap64 (x8_1 + 1)), Z3, Z3, H', ⟨Z23⟩, Z7⟩
    ·rw [if_neg c5] at H
     exact absurd H Z25
   ·rw [if_neg c4] at H
    have c4b0 := decide_eq_false c4
    clear c4
    by_cases c8 : a2 = 0
    ·rw [if_pos c8] at H
     have c8b0 := e1 c8
     have c8b1 := e2 c8
     clear c8
     obtain rfl := Option.some.inj H
     go_wp2
     go_ret
     exact ⟨Z3, Z7⟩
    ·rw [if_neg c8] at H
     have c8b0 := e3 c8
     have c8b1 := e4 c8
     by_cases c9 : a2 = 1
     ·rw [if_pos c9] at H
      have c9b0 := e1 c9
      have c9b1 := e2 c9
      clear c9
      obtain rfl := Option.some.inj H
      go_wp2
      go_ret
      exact ⟨Z3, Z7⟩
     ·rw [if_neg c9] at H
      have c9b0 := e3 c9
      have c9b1 := e4 c9
      by_cases c10 : a2 = 2
      ·rw [if_pos c10] at H
       have c10b0 := e1 c10
       have c10b1 := e2 c10
       clear c10
       by_cases c11 : 0 < (l0.length : Int)
       ·rw [if_pos c11] at H
        have c11b0 := decide_eq_true c11
        have c11b1 : decide (0 < l0.length) = true := decide_eq_true Z21
        clear c11
        replace H := bS H
        obtain ⟨t193, A12, H⟩ := H
        try dsimp only at H
        by_cases c13 : t193 = true
        ·subst c13
         have H1 : (if 1 < (l0.length : Int) then ((quoinref02_Has.f k1 (rd_L2 l0 1) a1).bind fun t195 => (some (!t195))) else (none)) = some r := by rw [if_pos rfl] at H; exact H
         clear H
         have H := H1
         clear H1
         by_cases c14 : 1 < (l0.length : Int)
         ·rw [if_pos c14] at H
          have c14b0 := decide_eq_true c14
          have c14b1 : decide (1 < l0.length) = true := decide_eq_true Z21
          clear c14
          replace H := bS H
          obtain ⟨t195, A15, H⟩ := H
          try dsimp only at H
          obtain rfl := Option.some.inj H
          have p192 : 0 ≤ (0 : Int) := Z21
          have q192 : 0 < (l0.length : Int) := of_decide_eq_true Z0
          obtain ⟨ad192, A192_0, c192_0, e192, hx192_0, hl192_0, hi192_0⟩ := at_L2 HR0.out 0 p192 q192
          cases e192
          have qi192 : (0 < l0.length) = True := eq_true Z21
          (try rw [show ((0 : Int)).toNat = 0 from rfl] at hx192_0)
          (try rw [Addr.add_zero'] at hx192_0)
          have HR192_0 := Aside0.mk hi192_0
          have HC192_0 := Aside0.mk hl192_0
          clear hi192_0 hl192_0
          replace p192 := eq_true p192
          replace q192 := eq_true q192
          go_wp2_with (first | ((with_reducible refine gC 22 rfl ?_); refine goesL_ (some 40) rfl rfl Tryd.func22 Z14 rfl #[.slice A192_0 (rd_L2 l0 0).length c192_0, .int .i32 a1] rfl Z2 ?_; (with_reducible refine (quoinref02_Has.calls k1 _ _ (rd_L2 l0 0) a1 true _ ?side1 ?side2 A12.out).mono ?_); (case side1 => repeat (first | exact HR192_0.out | (with_reducible refine Kd.C_alloc ?_ _) | (with_reducible refine Kd.C_drewN ?_ _) | (with_reducible refine Kd.C_drew ?_))); (case side2 => exact HC192_0.out); rintro e w' ⟨rfl, ⟨nd, rfl⟩⟩; refine ⟨_, rfl, ?_⟩; have p194 : 0 ≤ (1 : Int) := Z21; have q194 : 1 < (l0.length : Int) := of_decide_eq_true Z0; obtain ⟨ad194, A194_0, c194_0, e194, hx194_0, hl194_0, hi194_0⟩ := at_L2 HR0.out 1 p194 q194; obtain rfl : ad192 = ad194 := (by injection e194); (try simp only [show (1 : Int).toNat = 1 from rfl, Nat.reduceMul, Nat.reduceEqDiff, Go.Addr.add, ↓reduceIte] at hx194_0); have qi194 : (1 < l0.length) = True := eq_true Z21; (try rw [show ((1 : Int)).toNat = 1 from rfl] at hx194_0); have HR194_0 := Aside0.mk hi194_0; have HC194_0 := Aside0.mk hl194_0; clear hi194_0 hl194_0; replace p194 := eq_true p194; replace q194 := eq_true q194) | (go_at_call 22; (with_reducible refine (quoinref02_Has.calls k1 _ _ (rd_L2 l0 1) a1 t195 _ ?side1 ?side2 A15.out).mono ?_); (case side1 => repeat (first | exact HR194_0.out | (with_reducible refine Kd.C_alloc ?_ _) | (with_reducible refine Kd.C_drewN ?_ _) | (with_reducible refine Kd.C_drew ?_))); (case side2 => exact HC194_0.out); rintro e w' ⟨rfl, ⟨nd, rfl⟩⟩))
          go_ret
          exact ⟨Z3, Z7⟩
         ·rw [if_neg c14] at H
          exact absurd H Z25
        ·replace c13 := Bool.eq_false_iff.mpr c13
         subst c13
         have H1 : (some false) = some r := by rw [if_neg (show ¬ (false = true) by decide)] at H; exact H
         clear H
         have H := H1
         clear H1
         obtain rfl := Option.some.inj H
         have p192 : 0 ≤ (0 : Int) := Z21
         have q192 : 0 < (l0.length : Int) := of_decide_eq_true Z0
         obtain ⟨ad192, A192_0, c192_0, e192, hx192_0, hl192_0, hi192_0⟩ := at_L2 HR0.out 0 p192 q192
         cases e192
         have qi192 : (0 < l0.length) = True := eq_true Z21
         (try rw [show ((0 : Int)).toNat = 0 from rfl] at hx192_0)
         (try rw [Addr.add_zero'] at hx192_0)
         have HR192_0 := Aside0.mk hi192_0
         have HC192_0 := Aside0.mk hl192_0
         clear hi192_0 hl192_0
         replace p192 := eq_true p192
         replace q192 := eq_true q192
         go_wp2_with (first | ((with_reducible refine gC 22 rfl ?_); refine goesL_ (some 40) rfl rfl Tryd.func22 Z14 rfl #[.slice A192_0 (rd_L2 l0 0).length c192_0, .int .i32 a1] rfl Z2 ?_; (with_reducible refine (quoinref02_Has.calls k1 _ _ (rd_L2 l0 0) a1 false _ ?side1 ?side2 A12.out).mono ?_); (case side1 => repeat (first | exact HR192_0.out | (with_reducible refine Kd.C_alloc ?_ _) | (with_reducible refine Kd.C_drewN ?_ _) | (with_reducible refine Kd.C_drew ?_))); (case side2 => exact HC192_0.out); rintro e w' ⟨rfl, ⟨nd, rfl⟩⟩; refine ⟨_, rfl, ?_⟩))
         go_ret
         exact ⟨Z3, Z7⟩
       ·rw [if_neg c11] at H
        exact absurd H Z25
      ·rw [if_neg c10] at H
       have c10b0 := e3 c10
       have c10b1 := e4 c10
       obtain rfl := Option.some.inj H
       go_wp2
       go_ret
       exact ⟨Z3, Z7⟩
end Go.Proofs.YtfnkboilepgmoaaDoor.R
