import Derived.Test.YtaccleilcdfapaaGreatQPre
import Derived.Test.YtaccleilcdfapaaGreatQax0
import Derived.Test.YtaccleilcdfapaaGreatQax2
namespace Go.Proofs.YtaccleilcdfapaaGreat.G
open Go.RowKit Go.Proofs.YtaccleilcdfapaaGreatW.PrintWords Go.Proofs.YtaccleilcdfapaaGreatW.PrintLast Go.Proofs.YtaccleilcdfapaaGreatW.PrintMore
attribute [local go_sem] dH dF dR dQ da cZ dG dE
set_option linter.unusedVariables false
set_option maxHeartbeats 8000000
set_option maxRecDepth 100000
set_option linter.unusedSimpArgs false
def bj.l0 : Nat → List (S51) → Int → Int → Option (Bool)
 | 0, _, _, _ => none
 | k + 1, x0, x1, x5 => if x5 < (x0.length : Int) then (if 0 ≤ x5 then (if ((aA x0 x5).f0) ≤ x1 then (if x1 ≤ ((aA x0 x5).f1) then (some true) else (bj.l0 k x0 x1 (wrap64 (x5 + 1)))) else (bj.l0 k x0 x1 (wrap64 (x5 + 1)))) else (none)) else (some false)
def bj.f (k : Nat) (l0 : List (S51)) (a1 : Int) : Option (Bool) := bj.l0 k l0 a1 0
theorem bj.calls (k : Nat) (A0 : Option Addr) (c0 : Nat) (l0 : List (S51)) (a1 : Int) (r : Bool) (w : World) (hr0 : Kd.C k51 w A0 l0.length l0) (hc0 : l0.length ≤ c0) (h : bj.f k l0 a1 = some r) :
  Calls Tryz.prog 142 #[.slice A0 l0.length c0, .int .i32 a1] w fun e w' => e = .returned (.bool r) ∧ Drawn0 w w' := by
 have HR0 := gz hr0
 have HC0 := gz hc0
 clear hr0 hc0
 have H : (bj.l0 k l0 a1 0) = some r := h
 clear h
 have H' := gz H
 clear H
 go_enter Tryz.func142, Tryz.ntmps142
 go_wp2
 go_loopg [5] k (fun kq v5 w' => ∃ (x5_1 : Int), v5 = .int .i64 x5_1 ∧ aa (bj.l0 kq l0 a1 x5_1 = some r) ∧ aa (kq ≤ k) ∧ Drawn0 w w')
 case atStart => exact ⟨(0), Z2, H', ⟨Nat.le_refl _⟩, Z6⟩
 case round =>
  clear H'
  try clear c1
  try clear p2
  obtain ⟨x5_1, rfl, HA, HK1, ⟨m1, rfl⟩⟩ := hrel
  cases gk with
  | zero => exact absurd HA.out (by simp [bj.l0])
  | succ k1 =>
   have H := HA.out
   clear HA
   simp only [bj.l0] at H
   by_cases c3 : x5_1 < (l0.length : Int)
   ·rw [if_pos c3] at H
    have c3b0 := decide_eq_true c3
    clear c3
    by_cases c4 : 0 ≤ x5_1
    ·rw [if_pos c4] at H
     have c4b0 := decide_eq_true c4
     clear c4
     by_cases c5 : ((aA l0 x5_1).f0) ≤ a1
     ·rw [if_pos c5] at H
      have c5b0 := decide_eq_true c5
      clear c5
      by_cases c6 : a1 ≤ ((aA l0 x5_1).f1)
      ·rw [if_pos c6] at H
       have c6b0 := decide_eq_true c6
       clear c6
       obtain rfl := Option.some.inj H
       have p230 : 0 ≤ (x5_1 : Int) := of_decide_eq_true Z4
       have q230 : x5_1 < (l0.length : Int) := of_decide_eq_true Z4
       obtain ⟨ad230, e230, hx230_0, hx230_1⟩ := cI HR0.out x5_1 p230 q230
       cases e230
       replace p230 := eq_true p230
       replace q230 := eq_true q230
       have p231 : 0 ≤ (x5_1 : Int) := of_decide_eq_true Z4
       have q231 : x5_1 < (l0.length : Int) := of_decide_eq_true Z4
       obtain ⟨ad231, e231, hx231_0, hx231_1⟩ := cI HR0.out x5_1 p231 q231
       obtain rfl : ad230 = ad231 := (by injection e231)
       replace p231 := eq_true p231
       replace q231 := eq_true q231
       go_wp2
       go_ret
       exact ⟨Z2, Z6⟩
      ·rw [if_neg c6] at H
       have c6b0 := decide_eq_false c6
       clear c6
       have H' := gz H
       clear H
       have p230 : 0 ≤ (x5_1 : Int) := of_decide_eq_true Z4
       have q230 : x5_1 < (l0.length : Int) := of_decide_eq_true Z4
       obtain ⟨ad230, e230, hx230_0, hx230_1⟩ := cI HR0.out x5_1 p230 q230
       cases e230
       replace p230 := eq_true p230
       replace q230 := eq_true q230
       have p231 : 0 ≤ (x5_1 : Int) := of_decide_eq_true Z4
       have q231 : x5_1 < (l0.length : Int) := of_decide_eq_true Z4
       obtain ⟨ad231, e231, hx231_0, hx231_1⟩ := cI HR0.out x5_1 p231 q231
       obtain rfl : ad230 = ad231 := (by injection e231)
       replace p231 := eq_true p231
       replace q231 := eq_true q231
       go_wp2
       go_roundg k1
       case measure => have := HK1.out; omega
       case rel => exact ⟨(wrap64 (x5_1 + 1)), Z2, H', ⟨Z22⟩, Z6⟩
     ·rw [if_neg c5] at H
      have c5b0 := decide_eq_false c5
      clear c5
      have H' := gz H
      clear H
      have p230 : 0 ≤ (x5_1 : Int) := of_decide_eq_true Z4
      have q230 : x5_1 < (l0.length : Int) := of_decide_eq_true Z4
      obtain ⟨ad230, e230, hx230_0, hx230_1⟩ := cI HR0.out x5_1 p230 q230
      cases e230
      replace p230 := eq_true p230
      replace q230 := eq_true q230
      go_wp2
      go_roundg k1
      case measure => have := HK1.out; omega
      case rel => exact ⟨(wrap64 (x5_1 + 1)), Z2, H', ⟨Z22⟩, Z6⟩
    ·rw [if_neg c4] at H
     exact absurd H Z24
   ·rw [if_neg c3] at H
    have c3b0 := decide_eq_false c3
    clear c3
    obtain rfl := Option.some.inj H
    go_wp2
    go_ret
    exact ⟨Z2, Z6⟩
def bp.l0 : Nat → List (List (S51)) → Int → Int → Int → Int → Option (Bool)
 | 0, _, _, _, _, _ => none
 | k + 1, x0, x1, x2, x7, x8 => if x8 < (x0.length : Int) then (if 0 ≤ x8 then ((bj.f k (cP x0 x8) x1).bind fun t233 => (if t233 = true then (bp.l0 k x0 x1 x2 (wrap64 (x7 + 1)) (wrap64 (x8 + 1))) else (bp.l0 k x0 x1 x2 x7 (wrap64 (x8 + 1))))) else (none)) else (if x2 = 0 then (some (decide (x7 > 0))) else (if x2 = 1 then (some (x7 == (x0.length : Int))) else (if x2 = 2 then (if 0 < (x0.length : Int) then ((bj.f k (cP x0 0) x1).bind fun t235 => (if t235 = true then (if 1 < (x0.length : Int) then ((bj.f k (cP x0 1) x1).bind fun t237 => (some (!t237))) else (none)) else (some false))) else (none)) else (some (x7 == 0)))))
def bp.f (k : Nat) (l0 : List (List (S51))) (a1 : Int) (a2 : Int) : Option (Bool) := bp.l0 k l0 a1 a2 0 0
theorem bp.calls (k : Nat) (A0 : Option Addr) (c0 : Nat) (l0 : List (List (S51))) (a1 : Int) (a2 : Int) (r : Bool) (w : World) (hr0 : Kd.C (Kd.slice 51 k51) w A0 l0.length l0) (hc0 : l0.length ≤ c0) (h : bp.f k l0 a1 a2 = some r) :
  Calls Tryz.prog 129 #[.slice A0 l0.length c0, .int .i32 a1, .int .i64 a2] w fun e w' => e = .returned (.bool r) ∧ Drawn0 w w' := by
 have HR0 := gz hr0
 have HC0 := gz hc0
 clear hr0 hc0
 have H : (bp.l0 k l0 a1 a2 0 0) = some r := h
 clear h
 have H' := gz H
 clear H
 go_enter Tryz.func129, Tryz.ntmps129
 go_wp2
 go_loopg [7, 8] k (fun kq v7 v8 w' => ∃ (x7_1 : Int) (x8_1 : Int), v7 = .int .i64 x7_1 ∧ v8 = .int .i64 x8_1 ∧ aa (bp.l0 kq l0 a1 a2 x7_1 x8_1 = some r) ∧ aa (kq ≤ k) ∧ Drawn0 w w')
 case atStart => exact ⟨(0), (0), Z2, Z2, H', ⟨Nat.le_refl _⟩, Z6⟩
 case round =>
  clear H'
  try clear c1
  try clear p2
  obtain ⟨x7_1, x8_1, rfl, rfl, HA, HK1, ⟨m1, rfl⟩⟩ := hrel
  cases gk with
  | zero => exact absurd HA.out (by simp [bp.l0])
  | succ k1 =>
   have H := HA.out
   clear HA
   simp only [bp.l0] at H
   by_cases c4 : x8_1 < (l0.length : Int)
   ·rw [if_pos c4] at H
    have c4b0 := decide_eq_true c4
    clear c4
    by_cases c5 : 0 ≤ x8_1
    ·rw [if_pos c5] at H
     have c5b0 := decide_eq_true c5
     clear c5
     replace H := bS H
     obtain ⟨t233, A6, H⟩ := H
     try dsimp only at H
     by_cases c7 : t233 = true
     ·subst c7
      have H1 : (bp.l0 k1 l0 a1 a2 (wrap64 (x7_1 + 1)) (wrap64 (x8_1 + 1))) = some r := by rw [if_pos rfl] at H; exact H
      clear H
      have H := H1
      clear H1
      have H' := gz H
      clear H
      have p232 : 0 ≤ (x8_1 : Int) := of_decide_eq_true Z4
      have q232 : x8_1 < (l0.length : Int) := of_decide_eq_true Z4
      obtain ⟨ad232, A232_0, c232_0, e232, hx232_0, hl232_0, hi232_0⟩ := fV HR0.out x8_1 p232 q232
      cases e232
      have HR232_0 := gz hi232_0
      have HC232_0 := gz hl232_0
      clear hi232_0 hl232_0
      replace p232 := eq_true p232
      replace q232 := eq_true q232
      go_wp2_with (first | ((with_reducible refine gC 142 rfl ?_); refine bl (some 20) rfl rfl Tryz.func142 Z5 rfl #[.slice A232_0 (cP l0 x8_1).length c232_0, .int .i32 a1] rfl Z1 ?_; (with_reducible refine (bj.calls k1 _ _ (cP l0 x8_1) a1 true _ ?side1 ?side2 A6.out).mono ?_); (case side1 => repeat (first | exact HR232_0.out | (with_reducible refine Kd.C_alloc ?_ _) | (with_reducible refine Kd.C_drewN ?_ _) | (with_reducible refine Kd.C_drew ?_))); (case side2 => exact HC232_0.out); rintro e w' ⟨rfl, ⟨nd, rfl⟩⟩; refine ⟨_, rfl, ?_⟩))
      go_roundg k1
      case measure => have := HK1.out; omega
      case rel => exact ⟨(wrap64 (x7_1 + 1)), (wrap64 (x8_1 + 1)), Z2, Z2, H', ⟨Z22⟩, Z6⟩
     ·replace c7 := Bool.eq_false_iff.mpr c7
      subst c7
      have H1 : (bp.l0 k1 l0 a1 a2 x7_1 (wrap64 (x8_1 + 1))) = some r := by rw [if_neg (show ¬ (false = true) by decide)] at H; exact H
      clear H
      have H := H1
      clear H1
      have H' := gz H
      clear H
      have p232 : 0 ≤ (x8_1 : Int) := of_decide_eq_true Z4
      have q232 : x8_1 < (l0.length : Int) := of_decide_eq_true Z4
      obtain ⟨ad232, A232_0, c232_0, e232, hx232_0, hl232_0, hi232_0⟩ := fV HR0.out x8_1 p232 q232
      cases e232
      have HR232_0 := gz hi232_0
      have HC232_0 := gz hl232_0
      clear hi232_0 hl232_0
      replace p232 := eq_true p232
      replace q232 := eq_true q232
      go_wp2_with (first | ((with_reducible refine gC 142 rfl ?_); refine bl (some 20) rfl rfl Tryz.func142 Z5 rfl #[.slice A232_0 (cP l0 x8_1).length c232_0, .int .i32 a1] rfl Z1 ?_; (with_reducible refine (bj.calls k1 _ _ (cP l0 x8_1) a1 false _ ?side1 ?side2 A6.out).mono ?_); (case side1 => repeat (first | exact HR232_0.out | (with_reducible refine Kd.C_alloc ?_ _) | (with_reducible refine Kd.C_drewN ?_ _) | (with_reducible refine Kd.C_drew ?_))); (case side2 => exact HC232_0.out); rintro e w' ⟨rfl, ⟨nd, rfl⟩⟩; refine ⟨_, rfl, ?_⟩))
      go_roundg k1
      case measure => have := HK1.out; omega
      case rel => exact ⟨(x7_1), (wrap64 (x8_1 + 1)), Z2, Z2, H', ⟨Z22⟩, Z6⟩
    ·rw [if_neg c5] at H
     exact absurd H Z24
   ·rw [if_neg c4] at H
    have c4b0 := decide_eq_false c4
    clear c4
    by_cases c8 : a2 = 0
    ·rw [if_pos c8] at H
     have c8b0 := e1 c8
     have c8b1 := e2 c8
     clear c8
     obtain rfl := Option.some.inj H
     go_wp2
     go_ret
     exact ⟨Z2, Z6⟩
    ·rw [if_neg c8] at H
     have c8b0 := e3 c8
     have c8b1 := e4 c8
     by_cases c9 : a2 = 1
     ·rw [if_pos c9] at H
      have c9b0 := e1 c9
      have c9b1 := e2 c9
      clear c9
      obtain rfl := Option.some.inj H
      go_wp2
      go_ret
      exact ⟨Z2, Z6⟩
     ·rw [if_neg c9] at H
      have c9b0 := e3 c9
      have c9b1 := e4 c9
      by_cases c10 : a2 = 2
      ·rw [if_pos c10] at H
       have c10b0 := e1 c10
       have c10b1 := e2 c10
       clear c10
       by_cases c11 : 0 < (l0.length : Int)
       ·rw [if_pos c11] at H
        have c11b0 := decide_eq_true c11
        have c11b1 : decide (0 < l0.length) = true := decide_eq_true Z8
        clear c11
        replace H := bS H
        obtain ⟨t235, A12, H⟩ := H
        try dsimp only at H
        by_cases c13 : t235 = true
        ·subst c13
         have H1 : (if 1 < (l0.length : Int) then ((bj.f k1 (cP l0 1) a1).bind fun t237 => (some (!t237))) else (none)) = some r := by rw [if_pos rfl] at H; exact H
         clear H
         have H := H1
         clear H1
         by_cases c14 : 1 < (l0.length : Int)
         ·rw [if_pos c14] at H
          have c14b0 := decide_eq_true c14
          have c14b1 : decide (1 < l0.length) = true := decide_eq_true Z8
          clear c14
          replace H := bS H
          obtain ⟨t237, A15, H⟩ := H
          try dsimp only at H
          obtain rfl := Option.some.inj H
          have p234 : 0 ≤ (0 : Int) := Z8
          have q234 : 0 < (l0.length : Int) := of_decide_eq_true Z4
          obtain ⟨ad234, A234_0, c234_0, e234, hx234_0, hl234_0, hi234_0⟩ := fV HR0.out 0 p234 q234
          cases e234
          have qi234 : (0 < l0.length) = True := eq_true Z8
          (try rw [show ((0 : Int)).toNat = 0 from rfl] at hx234_0)
          (try rw [Addr.add_zero'] at hx234_0)
          have HR234_0 := gz hi234_0
          have HC234_0 := gz hl234_0
          clear hi234_0 hl234_0
          replace p234 := eq_true p234
          replace q234 := eq_true q234
          go_wp2_with (first | ((with_reducible refine gC 142 rfl ?_); refine bl (some 40) rfl rfl Tryz.func142 Z5 rfl #[.slice A234_0 (cP l0 0).length c234_0, .int .i32 a1] rfl Z1 ?_; (with_reducible refine (bj.calls k1 _ _ (cP l0 0) a1 true _ ?side1 ?side2 A12.out).mono ?_); (case side1 => repeat (first | exact HR234_0.out | (with_reducible refine Kd.C_alloc ?_ _) | (with_reducible refine Kd.C_drewN ?_ _) | (with_reducible refine Kd.C_drew ?_))); (case side2 => exact HC234_0.out); rintro e w' ⟨rfl, ⟨nd, rfl⟩⟩; refine ⟨_, rfl, ?_⟩; have p236 : 0 ≤ (1 : Int) := Z8; have q236 : 1 < (l0.length : Int) := of_decide_eq_true Z4; obtain ⟨ad236, A236_0, c236_0, e236, hx236_0, hl236_0, hi236_0⟩ := fV HR0.out 1 p236 q236; obtain rfl : ad234 = ad236 := (by injection e236); (try simp only [show (1 : Int).toNat = 1 from rfl, Nat.reduceMul, Nat.reduceEqDiff, Go.Addr.add, ↓reduceIte] at hx236_0); have qi236 : (1 < l0.length) = True := eq_true Z8; (try rw [show ((1 : Int)).toNat = 1 from rfl] at hx236_0); have HR236_0 := gz hi236_0; have HC236_0 := gz hl236_0; clear hi236_0 hl236_0; replace p236 := eq_true p236; replace q236 := eq_true q236) | (go_at_call 142; (with_reducible refine (bj.calls k1 _ _ (cP l0 1) a1 t237 _ ?side1 ?side2 A15.out).mono ?_); (case side1 => repeat (first | exact HR236_0.out | (with_reducible refine Kd.C_alloc ?_ _) | (with_reducible refine Kd.C_drewN ?_ _) | (with_reducible refine Kd.C_drew ?_))); (case side2 => exact HC236_0.out); rintro e w' ⟨rfl, ⟨nd, rfl⟩⟩))
          go_ret
          exact ⟨Z2, Z6⟩
         ·rw [if_neg c14] at H
          exact absurd H Z24
        ·replace c13 := Bool.eq_false_iff.mpr c13
         subst c13
         have H1 : (some false) = some r := by rw [if_neg (show ¬ (false = true) by decide)] at H; exact H
         clear H
         have H := H1
         clear H1
         obtain rfl := Option.some.inj H
         have p234 : 0 ≤ (0 : Int) := Z8
         have q234 : 0 < (l0.length : Int) := of_decide_eq_true Z4
         obtain ⟨ad234, A234_0, c234_0, e234, hx234_0, hl234_0, hi234_0⟩ := fV HR0.out 0 p234 q234
         cases e234
         have qi234 : (0 < l0.length) = True := eq_true Z8
         (try rw [show ((0 : Int)).toNat = 0 from rfl] at hx234_0)
         (try rw [Addr.add_zero'] at hx234_0)
         have HR234_0 := gz hi234_0
         have HC234_0 := gz hl234_0
         clear hi234_0 hl234_0
         replace p234 := eq_true p234
         replace q234 := eq_true q234
         go_wp2_with (first | ((with_reducible refine gC 142 rfl ?_); refine bl (some 40) rfl rfl Tryz.func142 Z5 rfl #[.slice A234_0 (cP l0 0).length c234_0, .int .i32 a1] rfl Z1 ?_; (with_reducible refine (bj.calls k1 _ _ (cP l0 0) a1 false _ ?side1 ?side2 A12.out).mono ?_); (case side1 => repeat (first | exact HR234_0.out | (with_reducible refine Kd.C_alloc ?_ _) | (with_reducible refine Kd.C_drewN ?_ _) | (with_reducible refine Kd.C_drew ?_))); (case side2 => exact HC234_0.out); rintro e w' ⟨rfl, ⟨nd, rfl⟩⟩; refine ⟨_, rfl, ?_⟩))
         go_ret
         exact ⟨Z2, Z6⟩
       ·rw [if_neg c11] at H
        exact absurd H Z24
      ·rw [if_neg c10] at H
       have c10b0 := e3 c10
       have c10b1 := e4 c10
       obtain rfl := Option.some.inj H
       go_wp2
       go_ret
       exact ⟨Z2, Z6⟩
def aH.l0 : Nat → List (List (S51)) → Int → List Int → List (S51) → Int → Option ((List (S51)) × Int)
 | 0, _, _, _, _, _ => none
 | k + 1, x0, x1, x6, x7, x8 => if x8 < (x6.length : Int) then (if 0 ≤ x8 then ((bp.f k x0 (rd x6 x8) x1).bind fun t242 => (if t242 = true then (if (wrap64 (x8 + 1)) < (x6.length : Int) then (if 0 ≤ (wrap64 (x8 + 1)) then (if (x7.length : Int) > 0 then (if 0 ≤ (wrap64 ((x7.length : Int) - 1)) then (if (wrap64 ((x7.length : Int) - 1)) < (x7.length : Int) then (if (wrap32 (((aA x7 (wrap64 ((x7.length : Int) - 1))).f1) + 1)) = (rd x6 x8) then (aH.l0 k x0 x1 x6 (x7.set ((wrap64 ((x7.length : Int) - 1)) : Int).toNat (⟨(aA x7 (wrap64 ((x7.length : Int) - 1))).f0, wrap32 ((rd x6 (wrap64 (x8 + 1))) - 1)⟩ : S51)) (wrap64 (x8 + 1))) else (if x7.length < 17592186044416 then (aH.l0 k x0 x1 x6 (x7 ++ [(⟨rd x6 x8, wrap32 ((rd x6 (wrap64 (x8 + 1))) - 1)⟩ : S51)]) (wrap64 (x8 + 1))) else (none))) else (none)) else (none)) else (if x7.length < 17592186044416 then (aH.l0 k x0 x1 x6 (x7 ++ [(⟨rd x6 x8, wrap32 ((rd x6 (wrap64 (x8 + 1))) - 1)⟩ : S51)]) (wrap64 (x8 + 1))) else (none))) else (none)) else (if (x7.length : Int) > 0 then (if 0 ≤ (wrap64 ((x7.length : Int) - 1)) then (if (wrap64 ((x7.length : Int) - 1)) < (x7.length : Int) then (if (wrap32 (((aA x7 (wrap64 ((x7.length : Int) - 1))).f1) + 1)) = (rd x6 x8) then (aH.l0 k x0 x1 x6 (x7.set ((wrap64 ((x7.length : Int) - 1)) : Int).toNat (⟨(aA x7 (wrap64 ((x7.length : Int) - 1))).f0, 1114111⟩ : S51)) (wrap64 (x8 + 1))) else (if x7.length < 17592186044416 then (aH.l0 k x0 x1 x6 (x7 ++ [(⟨rd x6 x8, 1114111⟩ : S51)]) (wrap64 (x8 + 1))) else (none))) else (none)) else (none)) else (if x7.length < 17592186044416 then (aH.l0 k x0 x1 x6 (x7 ++ [(⟨rd x6 x8, 1114111⟩ : S51)]) (wrap64 (x8 + 1))) else (none)))) else (aH.l0 k x0 x1 x6 x7 (wrap64 (x8 + 1))))) else (none)) else (if (x7.length : Int) > 2048 then (some (([] : List (S51)), 21)) else (some (x7, 0)))
def aH.f (k : Nat) (l0 : List (List (S51))) (a1 : Int) : Option ((List (S51)) × Int) := (aN.f k l0).bind fun t238 => (aH.l0 k l0 a1 t238 ([] : List (S51)) 0)
theorem aH.calls (k : Nat) (A0 : Option Addr) (c0 : Nat) (l0 : List (List (S51))) (a1 : Int) (r1 : List (S51)) (r2 : Int) (w : World) (hr0 : Kd.C (Kd.slice 51 k51) w A0 l0.length l0) (hc0 : l0.length ≤ c0) (h : aH.f k l0 a1 = some (r1, r2)) :
  Calls Tryz.prog 113 #[.slice A0 l0.length c0, .int .i64 a1] w fun e w' => ∃ v0_ : Value, e = .returned (.tuple #[v0_, .int .i64 r2]) ∧ Kd.R k51 51 w' w.heap.size (fun _ => True) v0_ r1 ∧ Below w.heap.size w w' := by
 have HR := gz hr0
 have HC := gz hc0
 clear hr0 hc0
 unfold aH.f at h
 obtain ⟨cs, A3, h⟩ := cC h
 have H := gz h
 have A3 := gz A3
 clear h
 go_enter Tryz.func113, Tryz.ntmps113
 go_wp2_with fail
 refine (aN.calls k _ _ l0 cs _ HR.out HC.out A3.out).mono ?_
 rintro e w4 ⟨v6, rfl, ho, hb⟩
 obtain ⟨A6, c6, rfl⟩ := Kd.R_slice ho
 have H6 := gz (Kd.R_reads' ho).2.2
 replace HR := gz (Kd.C_below HR.out hb)
 have HW := gz hb
 clear ho hb A3
 go_wp2_with fail
 go_loopg [7, 8] k (fun kq v7 v8 wr => ∃ (x7 : List S51) (i : Int), v8 = .int .i64 i ∧ aa (aH.l0 kq l0 a1 cs x7 i = some (r1, r2)) ∧ aa (kq ≤ k) ∧ aa (Kd.R k51 51 wr w4.heap.size (fun _ => True) v7 x7) ∧ aa (Below w4.heap.size w4 wr))
 case atStart => exact ⟨[], 0, rfl, H, ⟨Nat.le_refl _⟩, ⟨Kd.R_nil _ _ _ _ _⟩, ⟨Below.refl _ _⟩⟩
 case round =>
  clear H
  obtain ⟨x7, i, rfl, HA, HK, HO, HB⟩ := hrel
  cases gk with
  | zero => exact absurd HA.out (by simp [aH.l0])
  | succ k1 =>
  have h := HA.out
  clear HA
  simp only [aH.l0] at h
  obtain ⟨A7, c7, rfl⟩ := Kd.R_slice HO.out
  by_cases c : i < (cs.length : Int)
  ·rw [if_pos c] at h
   have d := decide_eq_true c
   by_cases hi0 : 0 ≤ i
   case neg => rw [if_neg hi0] at h; cases h
   rw [if_pos hi0] at h
   obtain ⟨t, A, h⟩ := cC h
   obtain ⟨ad, e0, g0⟩ := Kd.at_int (Kd.C_below H6.out HB.out) i hi0 c
   cases e0
   have A := gz A
   cases t with
   | false =>
    replace h := gz h
    go_wp2_with fail
    refine (bp.calls k1 _ _ l0 _ a1 false _ (Kd.C_below HR.out HB.out) HC.out A.out).mono ?_
    rintro ee ww ⟨rfl, nd, rfl⟩
    go_wp2
    go_roundg k1
    case measure => have := HK.out; omega
    case rel => exact ⟨x7, wrap64 (i + 1), rfl, h, ⟨Z20⟩, ⟨Kd.R_drewN HO.out _⟩, ⟨aC HB.out _⟩⟩
   | true =>
    rw [if_pos rfl] at h
    replace h := gz h
    go_wp2_with fail
    refine (bp.calls k1 _ _ l0 _ a1 true _ (Kd.C_below HR.out HB.out) HC.out A.out).mono ?_
    rintro ee ww ⟨rfl, nd, rfl⟩
    go_upto_if 30 with (fail)
    go_cut [9] (fun v9 wc => ∃ z, v9 = .int .i32 z ∧ aa ((if (x7.length : Int) > 0 then if 0 ≤ wrap64 ((x7.length : Int) - 1) then if wrap64 ((x7.length : Int) - 1) < (x7.length : Int) then if wrap32 ((aA x7 (wrap64 ((x7.length : Int) - 1))).f1 + 1) = rd cs i then aH.l0 k1 l0 a1 cs (x7.set (wrap64 ((x7.length : Int) - 1)).toNat ⟨(aA x7 (wrap64 ((x7.length : Int) - 1))).f0, z⟩) (wrap64 (i + 1)) else if x7.length < 17592186044416 then aH.l0 k1 l0 a1 cs (x7 ++ [⟨rd cs i, z⟩]) (wrap64 (i + 1)) else none else none else none else if x7.length < 17592186044416 then aH.l0 k1 l0 a1 cs (x7 ++ [⟨rd cs i, z⟩]) (wrap64 (i + 1)) else none) = some (r1, r2)) ∧ aa (Drawn0 wr wc))
    case first =>
     replace h := h.out
     by_cases cj : wrap64 (i + 1) < (cs.length : Int)
     ·rw [if_pos cj] at h
      have dj := decide_eq_true cj
      by_cases hj0 : 0 ≤ wrap64 (i + 1)
      case neg => rw [if_neg hj0] at h; cases h
      rw [if_pos hj0] at h
      obtain ⟨ad', e0, g1⟩ := Kd.at_int (Kd.C_below H6.out HB.out) (wrap64 (i + 1)) hj0 cj
      cases e0
      replace h := gz h
      go_wp2
      go_meet
      case rel => exact ⟨_, rfl, h, ⟨_, rfl⟩⟩
     ·rw [if_neg cj] at h
      have dj := decide_eq_false cj
      replace h := gz h
      go_wp2
      go_meet
      case rel => exact ⟨_, rfl, h, ⟨_, rfl⟩⟩
    case rest =>
    clear h
    obtain ⟨z, rfl, h, ⟨⟨n, rfl⟩⟩⟩ := hcut
    replace h := h.out
    replace HO := gz (Kd.R_drewN HO.out n)
    replace HB := gz (aC HB.out n)
    obtain ⟨_, e0, g0⟩ := Kd.at_int (Kd.C_below H6.out HB.out) i hi0 c
    cases e0
    generalize World.drewN wr n = W at HO HB g0 ⊢
    by_cases cl : (x7.length : Int) > 0
    ·rw [if_pos cl] at h
     have dl : decide (0 < (x7.length : Int)) = true := decide_eq_true cl
     have dl' : decide (0 < x7.length) = true := decide_eq_true Z8
     by_cases hj0 : 0 ≤ wrap64 ((x7.length : Int) - 1)
     case neg => rw [if_neg hj0] at h; cases h
     rw [if_pos hj0] at h
     by_cases hj1 : wrap64 ((x7.length : Int) - 1) < (x7.length : Int)
     case neg => rw [if_neg hj1] at h; cases h
     rw [if_pos hj1] at h
     obtain ⟨g, e0, y0, y1, f1, hg, hW⟩ := R51 HO _ hj0 hj1
     cases e0
     by_cases ce : wrap32 ((aA x7 (wrap64 ((x7.length : Int) - 1))).f1 + 1) = rd cs i
     ·rw [if_pos ce] at h
      have de := e1 ce
      replace h := gz h
      clear ce
      go_wp2_with fail
      go_quiet (fail)
      go_wp2
      go_roundg k1
      case measure => have := HK.out; omega
      case rel =>
       obtain ⟨_, e9, _, _, _, hg, hW⟩ := R51 ⟨Kd.R_drewN HO.out nq⟩ _ hj0 hj1
       cases e9
       exact ⟨_, wrap64 (i + 1), rfl, h, ⟨Z20⟩, ⟨(hW.out z).1⟩, ⟨cx (aC HB.out nq) hg.out⟩⟩
     ·rw [if_neg ce] at h
      have de := e3 ce
      by_cases L : x7.length < 17592186044416
      case neg => rw [if_neg L] at h; cases h
      rw [if_pos L] at h
      replace h := gz h
      replace L := gz L
      clear ce
      go_wp2_with fail
      go_quiet (fail)
      replace HO := gz (Kd.R_drewN HO.out nq)
      replace HB := gz (aC HB.out nq)
      go_wp2_with (first | ((with_reducible refine aK (b := .append) (xs := #[.tmp 62, .tmp 69]) rfl ?_); at_builtin; refine ap51 (w0 := w4) (x := ⟨rd cs i, z⟩) (.tmp 62) (.tmp 69) HO HB HB.out.size L.out ?_; intro v1 w1 n1 b1 g1; clear g1))
      go_roundg k1
      case measure => have := HK.out; omega
      case rel => exact ⟨_, wrap64 (i + 1), rfl, h, ⟨Z20⟩, ⟨n1⟩, ⟨b1⟩⟩
    ·rw [if_neg cl] at h
     have dl : decide (0 < (x7.length : Int)) = false := decide_eq_false cl
     have dl' : decide (0 < x7.length) = false := decide_eq_false Z8
     by_cases L : x7.length < 17592186044416
     case neg => rw [if_neg L] at h; cases h
     rw [if_pos L] at h
     replace h := gz h
     replace L := gz L
     clear cl
     go_wp2_with fail
     go_quiet (fail)
     replace HO := gz (Kd.R_drewN HO.out nq)
     replace HB := gz (aC HB.out nq)
     go_wp2_with (first | ((with_reducible refine aK (b := .append) (xs := #[.tmp 62, .tmp 69]) rfl ?_); at_builtin; refine ap51 (w0 := w4) (x := ⟨rd cs i, z⟩) (.tmp 62) (.tmp 69) HO HB HB.out.size L.out ?_; intro v1 w1 n1 b1 g1; clear g1))
     go_roundg k1
     case measure => have := HK.out; omega
     case rel => exact ⟨_, wrap64 (i + 1), rfl, h, ⟨Z20⟩, ⟨n1⟩, ⟨b1⟩⟩
  ·rw [if_neg c] at h
   have d := decide_eq_false c
   by_cases cl : (x7.length : Int) > 2048
   ·rw [if_pos cl] at h
    simp only [Option.some.injEq, Prod.mk.injEq] at h
    obtain ⟨rfl, rfl⟩ := h
    have dl : decide (2048 < (x7.length : Int)) = true := decide_eq_true cl
    go_wp2
    go_ret2
    exact ⟨_, rfl, Kd.R_nil _ _ _ _ _, ai HW.out HB.out⟩
   ·rw [if_neg cl] at h
    simp only [Option.some.injEq, Prod.mk.injEq] at h
    obtain ⟨rfl, rfl⟩ := h
    have dl : decide (2048 < (x7.length : Int)) = false := decide_eq_false cl
    go_wp2
    go_ret2
    exact ⟨_, rfl, Kd.R_lower HO.out HW.out.size, ai HW.out HB.out⟩
def dp.f (k : Nat) (l0 : List (List (S51))) : Option ((List (S51)) × Int) := (aW.f k l0).bind fun t266 => (if t266 = 0 then ((aH.f k l0 0).bind fun bt267 => (some (bt267.1, bt267.2))) else (some (([] : List (S51)), t266)))
theorem dp.calls (k : Nat) (A0 : Option Addr) (c0 : Nat) (l0 : List (List (S51))) (r1 : List (S51)) (r2 : Int) (w : World) (hr0 : Kd.C (Kd.slice 51 k51) w A0 l0.length l0) (hc0 : l0.length ≤ c0) (h : dp.f k l0 = some (r1, r2)) :
  Calls Tryz.prog 99 #[.slice A0 l0.length c0] w fun e w' => ∃ v0_ : Value, e = .returned (.tuple #[v0_, .int .i64 r2]) ∧ Kd.R k51 51 w' w.heap.size (fun _ => True) v0_ r1 ∧ Below w.heap.size w w' := by
 have HR0 := gz hr0
 have HC0 := gz hc0
 clear hr0 hc0
 have HB := gz (Below.refl w.heap.size w)
 have H : ((aW.f k l0).bind fun t266 => (if t266 = 0 then ((aH.f k l0 0).bind fun bt267 => (some (bt267.1, bt267.2))) else (some (([] : List (S51)), t266)))) = some (r1, r2) := h
 clear h
 replace H := bS H
 obtain ⟨t266, A2, H⟩ := H
 try dsimp only at H
 by_cases c3 : t266 = 0
 ·rw [if_pos c3] at H
  have c3b0 := e1 c3
  have c3b1 := e2 c3
  clear c3
  replace H := bS H
  obtain ⟨⟨t267, t268⟩, A4, H⟩ := H
  try dsimp only at H
  simp only [Option.some.injEq, Prod.mk.injEq] at H
  obtain ⟨rfl, rfl⟩ := H
  go_enter Tryz.func99, Tryz.ntmps99
  go_wp2_with (first | ((with_reducible refine gC 112 rfl ?_); refine bl (some 6) rfl rfl Tryz.func112 Z5 rfl #[.slice A0 l0.length c0] rfl Z1 ?_; (with_reducible refine (aW.calls k _ _ l0 t266 _ ?side1 ?side2 A2.out).mono ?_); (case side1 => repeat (first | exact HR0.out | (with_reducible refine Kd.C_alloc ?_ _) | (with_reducible refine Kd.C_drewN ?_ _) | (with_reducible refine Kd.C_drew ?_))); (case side2 => exact HC0.out); rintro e w' ⟨rfl, ⟨nd, rfl⟩⟩; refine ⟨_, rfl, ?_⟩) | ((with_reducible refine gC 113 rfl ?_); refine bl (some 11) rfl rfl Tryz.func113 Z5 rfl #[.slice A0 l0.length c0, .int .i64 0] rfl Z1 ?_; (with_reducible refine (aH.calls k _ _ l0 0 t267 t268 _ ?side1 ?side2 A4.out).mono ?_); (case side1 => repeat (first | exact HR0.out | (with_reducible refine Kd.C_alloc ?_ _) | (with_reducible refine Kd.C_drewN ?_ _) | (with_reducible refine Kd.C_drew ?_))); (case side2 => exact HC0.out); rintro e w5 ⟨v269, rfl, ho0, hb⟩; refine ⟨_, rfl, ?_⟩; have HO270 := gz (Kd.R_lower ho0 (aU zB)); replace HB := gz (ai zB hb); (try clear hb); (try clear hb2); (try clear hk); (try clear hi); (try clear ho0)))
  go_ret2
  exact ⟨_, Z3, by (with_reducible repeat (first | apply Kd.R_alloc | apply Kd.R_drewN | apply Kd.R_drew)); exact HO270.out, Z0⟩
 ·rw [if_neg c3] at H
  have c3b0 := e3 c3
  have c3b1 := e4 c3
  simp only [Option.some.injEq, Prod.mk.injEq] at H
  obtain ⟨rfl, rfl⟩ := H
  go_enter Tryz.func99, Tryz.ntmps99
  go_wp2_with (first | ((with_reducible refine gC 112 rfl ?_); refine bl (some 6) rfl rfl Tryz.func112 Z5 rfl #[.slice A0 l0.length c0] rfl Z1 ?_; (with_reducible refine (aW.calls k _ _ l0 t266 _ ?side1 ?side2 A2.out).mono ?_); (case side1 => repeat (first | exact HR0.out | (with_reducible refine Kd.C_alloc ?_ _) | (with_reducible refine Kd.C_drewN ?_ _) | (with_reducible refine Kd.C_drew ?_))); (case side2 => exact HC0.out); rintro e w' ⟨rfl, ⟨nd, rfl⟩⟩; refine ⟨_, rfl, ?_⟩))
  go_ret2
  exact ⟨_, Z3, Z7, Z0⟩
def dD.f (k : Nat) (l0 : List (List (S51))) : Option ((List (S51)) × Int) := (aW.f k l0).bind fun t271 => (if t271 = 0 then ((aH.f k l0 1).bind fun bt272 => (some (bt272.1, bt272.2))) else (some (([] : List (S51)), t271)))
theorem dD.calls (k : Nat) (A0 : Option Addr) (c0 : Nat) (l0 : List (List (S51))) (r1 : List (S51)) (r2 : Int) (w : World) (hr0 : Kd.C (Kd.slice 51 k51) w A0 l0.length l0) (hc0 : l0.length ≤ c0) (h : dD.f k l0 = some (r1, r2)) :
  Calls Tryz.prog 100 #[.slice A0 l0.length c0] w fun e w' => ∃ v0_ : Value, e = .returned (.tuple #[v0_, .int .i64 r2]) ∧ Kd.R k51 51 w' w.heap.size (fun _ => True) v0_ r1 ∧ Below w.heap.size w w' := by
 have HR0 := gz hr0
 have HC0 := gz hc0
 clear hr0 hc0
 have HB := gz (Below.refl w.heap.size w)
 have H : ((aW.f k l0).bind fun t271 => (if t271 = 0 then ((aH.f k l0 1).bind fun bt272 => (some (bt272.1, bt272.2))) else (some (([] : List (S51)), t271)))) = some (r1, r2) := h
 clear h
 replace H := bS H
 obtain ⟨t271, A2, H⟩ := H
 try dsimp only at H
 by_cases c3 : t271 = 0
 ·rw [if_pos c3] at H
  have c3b0 := e1 c3
  have c3b1 := e2 c3
  clear c3
  replace H := bS H
  obtain ⟨⟨t272, t273⟩, A4, H⟩ := H
  try dsimp only at H
  simp only [Option.some.injEq, Prod.mk.injEq] at H
  obtain ⟨rfl, rfl⟩ := H
  go_enter Tryz.func100, Tryz.ntmps100
  go_wp2_with (first | ((with_reducible refine gC 112 rfl ?_); refine bl (some 6) rfl rfl Tryz.func112 Z5 rfl #[.slice A0 l0.length c0] rfl Z1 ?_; (with_reducible refine (aW.calls k _ _ l0 t271 _ ?side1 ?side2 A2.out).mono ?_); (case side1 => repeat (first | exact HR0.out | (with_reducible refine Kd.C_alloc ?_ _) | (with_reducible refine Kd.C_drewN ?_ _) | (with_reducible refine Kd.C_drew ?_))); (case side2 => exact HC0.out); rintro e w' ⟨rfl, ⟨nd, rfl⟩⟩; refine ⟨_, rfl, ?_⟩) | ((with_reducible refine gC 113 rfl ?_); refine bl (some 11) rfl rfl Tryz.func113 Z5 rfl #[.slice A0 l0.length c0, .int .i64 1] rfl Z1 ?_; (with_reducible refine (aH.calls k _ _ l0 1 t272 t273 _ ?side1 ?side2 A4.out).mono ?_); (case side1 => repeat (first | exact HR0.out | (with_reducible refine Kd.C_alloc ?_ _) | (with_reducible refine Kd.C_drewN ?_ _) | (with_reducible refine Kd.C_drew ?_))); (case side2 => exact HC0.out); rintro e w5 ⟨v274, rfl, ho0, hb⟩; refine ⟨_, rfl, ?_⟩; have HO275 := gz (Kd.R_lower ho0 (aU zB)); replace HB := gz (ai zB hb); (try clear hb); (try clear hb2); (try clear hk); (try clear hi); (try clear ho0)))
  go_ret2
  exact ⟨_, Z3, by (with_reducible repeat (first | apply Kd.R_alloc | apply Kd.R_drewN | apply Kd.R_drew)); exact HO275.out, Z0⟩
 ·rw [if_neg c3] at H
  have c3b0 := e3 c3
  have c3b1 := e4 c3
  simp only [Option.some.injEq, Prod.mk.injEq] at H
  obtain ⟨rfl, rfl⟩ := H
  go_enter Tryz.func100, Tryz.ntmps100
  go_wp2_with (first | ((with_reducible refine gC 112 rfl ?_); refine bl (some 6) rfl rfl Tryz.func112 Z5 rfl #[.slice A0 l0.length c0] rfl Z1 ?_; (with_reducible refine (aW.calls k _ _ l0 t271 _ ?side1 ?side2 A2.out).mono ?_); (case side1 => repeat (first | exact HR0.out | (with_reducible refine Kd.C_alloc ?_ _) | (with_reducible refine Kd.C_drewN ?_ _) | (with_reducible refine Kd.C_drew ?_))); (case side2 => exact HC0.out); rintro e w' ⟨rfl, ⟨nd, rfl⟩⟩; refine ⟨_, rfl, ?_⟩))
  go_ret2
  exact ⟨_, Z3, Z7, Z0⟩
def aq.l0 : Nat → List (S25) → Int → Int → List (S51) → List (S25) → Option ((List (S25)))
 | 0, _, _, _, _, _ => none
 | k + 1, x0, x5, x277000, x277001, x277002 => if x5 < (x0.length : Int) then (if 0 ≤ x5 then ((aj.f k ((an x0 x5).f0) ((an x0 x5).f1) ((an x0 x5).f2) x277000 x277001 x277002).bind fun t278 => (if t278 < 0 then (aq.l0 k x0 (wrap64 (x5 + 1)) x277000 x277001 x277002) else ((aj.f k ((an x0 x5).f0) ((an x0 x5).f1) ((an x0 x5).f2) x277000 x277001 x277002).bind fun t280 => (if t280 = 0 then (some x0) else ((some (([] : List (S25)) : List (S25))).bind fun y281 => (if x5 ≤ (x0.length : Int) then ((some (x0.take (x5 : Int).toNat : List (S25))).bind fun y284 => (if y281.length + y284.length < 2513169434916 then ((some (y281 ++ y284 : List (S25))).bind fun y289 => (if y289.length < 2513169434916 then ((some (y289 ++ [(⟨x277000, x277001, x277002⟩ : S25)] : List (S25))).bind fun y292 => ((some (x0.drop (x5 : Int).toNat : List (S25))).bind fun y295 => (if y292.length + y295.length < 2513169434916 then (some (y292 ++ y295)) else (none)))) else (none))) else (none))) else (none))))))) else (none)) else ((some (([] : List (S25)) : List (S25))).bind fun y303 => (if 0 ≤ x5 then (if x5 ≤ (x0.length : Int) then ((some (x0.take (x5 : Int).toNat : List (S25))).bind fun y306 => (if y303.length + y306.length < 2513169434916 then ((some (y303 ++ y306 : List (S25))).bind fun y311 => (if y311.length < 2513169434916 then ((some (y311 ++ [(⟨x277000, x277001, x277002⟩ : S25)] : List (S25))).bind fun y314 => ((some (x0.drop (x5 : Int).toNat : List (S25))).bind fun y317 => (if y314.length + y317.length < 2513169434916 then (some (y314 ++ y317)) else (none)))) else (none))) else (none))) else (none)) else (none)))
def aq.f (k : Nat) (l0 : List (S25)) (a1_0 : Int) (l1_1 : List (S51)) (l1_2 : List (S25)) : Option ((List (S25))) := aq.l0 k l0 0 a1_0 l1_1 l1_2
theorem aq.mono_l : ∀ k, (∀ y0 y1 y2 y3 y4, LeO (aq.l0 k y0 y1 y2 y3 y4) (aq.l0 (k + 1) y0 y1 y2 y3 y4))
 | 0 => fun _ _ _ _ _ r h => by simp [aq.l0] at h
 | k + 1 => by
  have ih0 := aq.mono_l k
  ·intro y0 y1 y2 y3 y4
   unfold aq.l0
   have m0 := @aj.mono
   exact mO
theorem aq.mono : ∀ a0 a1 a2 a3 k, LeO (aq.f k a0 a1 a2 a3) (aq.f (k + 1) a0 a1 a2 a3) := by
 intro a0 a1 a2 a3 k
 have ih0 := aq.mono_l k
 unfold aq.f
 have m0 := @aj.mono
 exact mO
def aq.T2 : Bool × List (List Nat × List Nat) := (true, [([], []), ([], []), ([1], [1]), ([0, 2], [0, 2]), ([3], [3]), ([4], [4]), ([4], [4]), ([5, 6, 4], [4, 5, 6]), ([7, 4], [4, 7]), ([4], [4]), ([8, 9, 4, 4], [4, 8, 9]), ([10, 4], [4, 10]), ([4, 11], [4, 11])])
def aq.B2 : List Nat := [0, 0, 2, 7, 15, 31, 31, 127, 255, 31, 1023, 2047, 4095]
theorem aq.tab2 : rtab .any (opsOf Tryz.f101 2) = aq.T2 := by kernel_rfl
theorem aq.bits2 : go aq.T2.2 aq.B2 = true := by kernel_rfl
def aq.T4 : Bool × List (List Nat × List Nat) := (true, [([], []), ([], []), ([1], [1]), ([0, 2], [0, 2]), ([3], [3]), ([4], [4]), ([4], [4]), ([5, 6, 4], [4, 5, 6]), ([7, 4], [4, 7]), ([4], [4]), ([8, 9, 4, 4], [4, 8, 9]), ([10, 4], [4, 10]), ([4, 11], [4, 11])])
def aq.B4 : List Nat := [0, 0, 2, 7, 15, 31, 31, 127, 255, 31, 1023, 2047, 4095]
theorem aq.tab4 : rtab .any (opsOf Tryz.f101 4) = aq.T4 := by kernel_rfl
theorem aq.bits4 : go aq.T4.2 aq.B4 = true := by kernel_rfl
theorem aq.calls (k : Nat) (P0_ : Nat → Prop) (A0 : Option Addr) (c0 : Nat) (l0 : List (S25)) (a1_0 : Int) (P1_1_ : Nat → Prop) (A1_1 : Option Addr) (c1_1 : Nat) (l1_1 : List (S51)) (P1_2_ : Nat → Prop) (A1_2 : Option Addr) (c1_2 : Nat) (l1_2 : List (S25)) (r : List (S25)) (w : World) (hs0 : Kd.V k25 25 w w.heap.size (fun k_ => P0_ k_) (.slice A0 l0.length c0) l0) (hs1_1 : Kd.V k51 51 w w.heap.size (fun k_ => P1_1_ k_) (.slice A1_1 l1_1.length c1_1) l1_1) (hs1_2 : Kd.V k25 25 w w.heap.size (fun k_ => P1_2_ k_) (.slice A1_2 l1_2.length c1_2) l1_2) (h : aq.f k l0 a1_0 l1_1 l1_2 = some r) :
  Calls Tryz.prog 101 #[.slice A0 l0.length c0, .agg #[.int .i64 a1_0, .slice A1_1 l1_1.length c1_1, .slice A1_2 l1_2.length c1_2]] w fun e w' => ∃ v0_ : Value, e = .returned (v0_) ∧ Kd.V k25 25 w' w.heap.size (fun k_ => ((P0_ k_ ∨ P1_1_ k_ ∨ P1_2_ k_) ∨ w.heap.size ≤ k_)) v0_ r ∧ Below w.heap.size w w' := by
 have hu25 := Tryz.underlying25
 have H0 := gz hs0
 have H1 := gz hs1_1
 have H2 := gz hs1_2
 have H := gz h
 clear hs0 hs1_1 hs1_2 h
 unfold aq.f at H
 go_enter Tryz.func101, Tryz.ntmps101
 go_wp2
 go_loopg [5] k (fun kq v5 wr => ∃ (i : Int), v5 = .int .i64 i ∧ aa (aq.l0 kq l0 i a1_0 l1_1 l1_2 = some r) ∧ aa (kq ≤ k) ∧ aa (Below w.heap.size w wr) ∧ aa (wr.heap[w.heap.size]? = some (bx a1_0 A1_1 l1_1 c1_1 A1_2 l1_2 c1_2)))
 case atStart => exact ⟨0, rfl, H, ⟨Nat.le_refl _⟩, ⟨zb⟩, ⟨bN⟩⟩
 case round =>
  clear H
  obtain ⟨i, rfl, HA, HK, HB, B0⟩ := hrel
  cases gk with
  | zero => exact absurd HA.out (by simp [aq.l0])
  | succ k1 =>
  have h := HA.out
  clear HA
  simp only [aq.l0] at h
  have p := b3 B0.out
  by_cases c : i < (l0.length : Int)
  ·rw [if_pos c] at h
   have d := decide_eq_true c
   by_cases hi0 : 0 ≤ i
   case neg => rw [if_neg hi0] at h; cases h
   rw [if_pos hi0] at h
   obtain ⟨t, A, h⟩ := cC h
   obtain ⟨ad, X1, x1, X2, x2, e0, g0, g1, g2, F1, F2⟩ := V_el (vO H0 HB.out) i hi0 c
   cases e0
   generalize an l0 i = s at A h g0 g1 g2 F1 F2
   obtain ⟨t0, t1, t2⟩ := s
   dsimp only at A h g0 g1 g2 F1 F2
   have A := gz A
   replace h := gz h
   go_wp2_with fail
   go_region_held3 (fun w' => w'.cell? ⟨w.heap.size, 0, none⟩ = some (.int .i64 a1_0) ∧ w'.cell? ⟨w.heap.size, 1, none⟩ = some (.slice A1_1 l1_1.length c1_1) ∧ w'.cell? ⟨w.heap.size, 2, none⟩ = some (.slice A1_2 l1_2.length c1_2) ∧ w'.cell? (ad.add (i.toNat * 3)) = some (.int .i64 t0) ∧ w'.cell? ⟨(ad.add (i.toNat * 3)).block, (ad.add (i.toNat * 3)).off + 1, none⟩ = some (.slice X1 t1.length x1) ∧ w'.cell? ⟨(ad.add (i.toNat * 3)).block, (ad.add (i.toNat * 3)).off + 2, none⟩ = some (.slice X2 t2.length x2)) (go_keep) ((go_at_call 7; refine (aj.calls k1 t0 X1 x1 t1 X2 x2 t2 a1_0 A1_1 c1_1 l1_1 A1_2 c1_2 l1_2 t _ (vC F1) (vL F1) (vC F2) (vL F2) (vC H1) (vL H1) (vC H2) (vL H2) A.out).mono ?_; rintro ee w1 ⟨rfl, hb⟩; have f0 := (hb.cell (World.block_lt_of_cell? _ _ (p.1))).trans (p.1); have f1 := (hb.cell (World.block_lt_of_cell? _ _ (p.2.1))).trans (p.2.1); have f2 := (hb.cell (World.block_lt_of_cell? _ _ (p.2.2.1))).trans (p.2.2.1); have f3 := (hb.cell (World.block_lt_of_cell? _ _ (g0))).trans (g0); have f4 := (hb.cell (World.block_lt_of_cell? _ _ (g1))).trans (g1); have f5 := (hb.cell (World.block_lt_of_cell? _ _ (g2))).trans (g2)))
   replace HB := dP HB (ai (aX (Below.refl _ _)) hb)
   replace B0 := dO B0 (ai (aX (Below.refl _ _)) hb)
   replace h := h.out
   by_cases ct : t < 0
   ·rw [if_pos ct] at h
    have dt := decide_eq_true ct
    replace h := gz h
    go_wp2
    go_roundg k1
    case measure => have := HK.out; omega
    case rel => exact ⟨wrap64 (i + 1), rfl, h, ⟨Z20⟩, HB, B0⟩
   ·rw [if_neg ct] at h
    have dt := decide_eq_false ct
    obtain ⟨t', A', h⟩ := cC h
    obtain rfl : t = t' := Option.some.inj (A.out.symm.trans A')
    clear g0 g1 g2 f0 f1 f2 p A'
    have p' := b3 B0.out
    replace F1 := vO F1 (ai (aX (Below.refl _ _)) hb)
    replace F2 := vO F2 (ai (aX (Below.refl _ _)) hb)
    clear hb
    replace h := gz h
    go_wp2_with fail
    go_region_held3 (fun w' => w'.cell? ⟨w.heap.size, 0, none⟩ = some (.int .i64 a1_0) ∧ w'.cell? ⟨w.heap.size, 1, none⟩ = some (.slice A1_1 l1_1.length c1_1) ∧ w'.cell? ⟨w.heap.size, 2, none⟩ = some (.slice A1_2 l1_2.length c1_2) ∧ w'.cell? (ad.add (i.toNat * 3)) = some (.int .i64 t0) ∧ w'.cell? ⟨(ad.add (i.toNat * 3)).block, (ad.add (i.toNat * 3)).off + 1, none⟩ = some (.slice X1 t1.length x1) ∧ w'.cell? ⟨(ad.add (i.toNat * 3)).block, (ad.add (i.toNat * 3)).off + 2, none⟩ = some (.slice X2 t2.length x2)) (go_keep) ((go_at_call 7; refine (aj.calls k1 t0 X1 x1 t1 X2 x2 t2 a1_0 A1_1 c1_1 l1_1 A1_2 c1_2 l1_2 t _ (vC F1) (vL F1) (vC F2) (vL F2) (vC H1) (vL H1) (vC H2) (vL H2) A.out).mono ?_; rintro ee w2 ⟨rfl, hb⟩; have f0' := (hb.cell (World.block_lt_of_cell? _ _ (p'.1))).trans (p'.1); have f1' := (hb.cell (World.block_lt_of_cell? _ _ (p'.2.1))).trans (p'.2.1); have f2' := (hb.cell (World.block_lt_of_cell? _ _ (p'.2.2.1))).trans (p'.2.2.1); have f3' := (hb.cell (World.block_lt_of_cell? _ _ (f3))).trans (f3); have f4' := (hb.cell (World.block_lt_of_cell? _ _ (f4))).trans (f4); have f5' := (hb.cell (World.block_lt_of_cell? _ _ (f5))).trans (f5)))
    replace HB := dP HB (ai (aX (Below.refl _ _)) hb)
    replace B0 := dO B0 (ai (aX (Below.refl _ _)) hb)
    clear hb p' f3 f4 f5 f0' f1' f2' f3' f4' f5'
    replace h := h.out
    by_cases ce : t = 0
    ·rw [if_pos ce] at h
     obtain rfl := Option.some.inj h
     have de := e1 ce
     go_wp2
     go_ret
     exact ⟨_, rfl, vW H0 HB.out (fun k hk => .inl (.inl hk)), HB.out⟩
    ·rw [if_neg ce] at h
     have de := e3 ce
     obtain ⟨A0, hA0⟩ : ∃ A0, some ad = A0 := ⟨_, rfl⟩
     rw [hA0] at H0 ⊢
     clear hA0 A ct dt F1 F2
     have hi1 : i ≤ (l0.length : Int) := by omega
     try simp only [Option.bind_some] at h
     rw [if_pos hi1] at h
     try simp only [Option.bind_some] at h
     by_cases ca : ([] : List S25).length + (l0.take i.toNat).length < 2513169434916
     case neg => rw [if_neg ca] at h; cases h
     rw [if_pos ca] at h
     by_cases cb : ([] ++ l0.take i.toNat : List S25).length < 2513169434916
     case neg => rw [if_neg cb] at h; cases h
     rw [if_pos cb] at h
     by_cases cc : (([] ++ l0.take i.toNat) ++ [(⟨a1_0, l1_1, l1_2⟩ : S25)]).length + (l0.drop i.toNat).length < 2513169434916
     case neg => rw [if_neg cc] at h; cases h
     rw [if_pos cc] at h
     obtain rfl := Option.some.inj h
     have hm : i.toNat ≤ l0.length := by omega
     have q1 := cutT A0 l0.length c0 i hi0 hi1 (vL H0)
     have q2 := cutF A0 l0.length c0 i hi0 hi1
     have HM := gz (And.intro hm (And.intro ca (And.intro cb cc)))
     obtain ⟨A3, hA3⟩ : ∃ A3, (if c0 = i.toNat then A0 else A0.map fun x => x.add (i.toNat * 3)) = A3 := ⟨_, rfl⟩
     rw [hA3] at q2
     have hA3 := gz hA3
     clear hm ca cb cc h c hi0 hi1
     have p := b3 B0.out
     have HZ := gz (And.intro HB.out.size (bB B0.out))
     go_wp2_with (first | ((with_reducible refine bI (N := 36) rfl ?_); refine Kd.N_lit k25 w.heap.size 25 ?hg (N' := 36) ?hd (xs := ([] : List S25)) (inner := []) (ok := G1 (fun k => P0_ k ∨ P1_1_ k ∨ P1_2_ k) w.heap.size) (okp := fun _ => False) ?hr (Reps.none _ _) (fun _ h => h.elim) (.inr (by have := HZ.out; omega)) HB.out HB.out.size Z24 ?_; (case hd => rfl); (case hg => rfl); (case hr => first | (go_simp; done) | (go_simp; rfl)); intro v6 w6 N6 b6 g6 _; have N6 := gz N6; have b6 := gz b6; have B6 := bkG B0 g6 Z24; clear g6) | ((with_reducible refine aK (b := .append) (xs := #[.tmp 36, .tmp 39]) rfl ?_); at_builtin; refine apF (w0 := w) (okp := fun k => P0_ k ∧ k < w.heap.size) (.tmp 36) (.tmp 39) i.toNat N6.out (Kd.F_take (Kd.V_F (vO H0 b6.out).out) HM.out.1) (List.length_take_of_le HM.out.1) (fun k hk => ⟨.inl ⟨.inl hk.1, hk.2⟩, dK N6 (.inl Z29)⟩) (fun k hk => .inr (by have := bB B6.out; omega)) b6.out b6.out.size HM.out.2.1 ?_; intro v7 w7 N7 b7 g7; have N7 := gz N7; have b7 := gz b7; have B7 := bkG B6 g7 (dK N6 (.inl Z8)); have q7 := b3 B7.out; clear g7) | ((with_reducible refine aK (b := .append) (xs := #[.tmp 41, .tmp 43]) rfl ?_); at_builtin; refine apN (w0 := w) (x := ⟨a1_0, l1_1, l1_2⟩) (okp := fun k => (P1_1_ k ∨ P1_2_ k) ∧ k < w.heap.size) (.tmp 41) (.tmp 43) N7.out (fC (vO H1 b7.out) (fun k hk => ⟨.inl hk.1, hk.2⟩)) (fC (vO H2 b7.out) (fun k hk => ⟨.inr hk.1, hk.2⟩)) (fun k hk => ⟨.inl ⟨.inr hk.1, hk.2⟩, dK N7 (.inl Z29)⟩) (fun k hk => .inr (by have := bB B7.out; omega)) b7.out b7.out.size HM.out.2.2.1 ?_; intro v8 w8 N8 b8 g8; have N8 := gz N8; have b8 := gz b8; have B8 := bkG B7 g8 (dK N7 (.inl Z8)); clear g8) | ((with_reducible refine aK (b := .append) (xs := #[.tmp 45, .tmp 48]) rfl ?_); at_builtin; refine apF (w0 := w) (okp := fun k => P0_ k ∧ k < w.heap.size) (.tmp 45) (.tmp 48) (l0.length - i.toNat) N8.out (hA3.out ▸ Kd.F_cut (c := c0) (Kd.V_F (vO H0 b8.out).out) HM.out.1 (vL H0)) List.length_drop (fun k hk => ⟨.inl ⟨.inl hk.1, hk.2⟩, dK N8 (.inl Z29)⟩) (fun k hk => .inr (by have := bB B8.out; omega)) b8.out b8.out.size HM.out.2.2.2 ?_; intro v9 w9 N9 b9 g9; clear g9))
     all_goals (go_ret; have N9 := Kd.N_V (base' := w.heap.size) N9; simp only [List.nil_append, List.append_assoc, List.cons_append] at N9 ⊢; exact ⟨_, rfl, fC ⟨N9⟩ (fun k hk => (G1q (P := fun k => P0_ k ∨ P1_1_ k ∨ P1_2_ k) hk).1), b9⟩)
  ·rw [if_neg c] at h
   have d := decide_eq_false c
   try simp only [Option.bind_some] at h
   by_cases hi0 : 0 ≤ i
   case neg => rw [if_neg hi0] at h; cases h
   rw [if_pos hi0] at h
   by_cases hi1 : i ≤ (l0.length : Int)
   case neg => rw [if_neg hi1] at h; cases h
   rw [if_pos hi1] at h
   try simp only [Option.bind_some] at h
   by_cases ca : ([] : List S25).length + (l0.take i.toNat).length < 2513169434916
   case neg => rw [if_neg ca] at h; cases h
   rw [if_pos ca] at h
   by_cases cb : ([] ++ l0.take i.toNat : List S25).length < 2513169434916
   case neg => rw [if_neg cb] at h; cases h
   rw [if_pos cb] at h
   by_cases cc : (([] ++ l0.take i.toNat) ++ [(⟨a1_0, l1_1, l1_2⟩ : S25)]).length + (l0.drop i.toNat).length < 2513169434916
   case neg => rw [if_neg cc] at h; cases h
   rw [if_pos cc] at h
   obtain rfl := Option.some.inj h
   have hm : i.toNat ≤ l0.length := by omega
   have q1 := cutT A0 l0.length c0 i hi0 hi1 (vL H0)
   have q2 := cutF A0 l0.length c0 i hi0 hi1
   have HM := gz (And.intro hm (And.intro ca (And.intro cb cc)))
   obtain ⟨A3, hA3⟩ : ∃ A3, (if c0 = i.toNat then A0 else A0.map fun x => x.add (i.toNat * 3)) = A3 := ⟨_, rfl⟩
   rw [hA3] at q2
   have hA3 := gz hA3
   clear hm ca cb cc h c hi0 hi1
   go_wp2_with fail
   replace HB := dP HB (aX (aX (Below.refl _ _)))
   replace B0 := dO B0 (aX (aX (Below.refl _ _)))
   refine gp (n := 13) (S := fun w' => True) (ds := []) #[false, false, false, false, false, false, false, false, false, false, false, false, false] Z5 rfl rfl trivial (fun hHeld => ?_); refine with_tabW aq.tab2 aq.bits2 (fun HT_ HW_ => ?_)
   refine pU 0 7 (hc := (cw HT_.out Z5)) (h := ?_)
   refine pU 1 8 (hc := (cw HT_.out Z5)) (h := ?_)
   refine pU 2 9 (hc := (cw HT_.out Z5)) (h := ?_)
   refine pU 3 10 (hc := (cw HT_.out Z5)) (h := ?_)
   refine pU 4 11 (hc := (cw HT_.out Z5)) (h := ?_)
   refine pV 5 12 (hc := (cw HT_.out Z5)) (h := ?_)
   refine pV 6 13 (hc := (cw HT_.out Z5)) (h := ?_)
   refine pV 7 14 (hc := (cw HT_.out Z5)) (h := ?_)
   refine pV 8 15 (hc := (cw HT_.out Z5)) (h := ?_)
   refine pV 9 16 (hc := (cw HT_.out Z5)) (h := ?_)
   refine pV 10 17 (hc := (cw HT_.out Z5)) (h := ?_)
   refine pV 11 18 (hc := (cw HT_.out Z5)) (h := ?_)
   refine pU 12 19 (hc := (cw HT_.out Z5)) (h := ?_)
   refine done_ (done_of HT_.out Z5) ?_
   go_wp2_with fail
   refine gp (n := 13) (S := fun w' => True) (ds := []) #[false, false, false, false, false, false, false, false, false, false, false, false, false] Z5 rfl rfl trivial (fun hHeld => ?_); refine with_tabW aq.tab4 aq.bits4 (fun HT_ HW_ => ?_)
   refine pU 0 22 (hc := (cw HT_.out Z5)) (h := ?_)
   refine pU 1 23 (hc := (cw HT_.out Z5)) (h := ?_)
   refine pU 2 24 (hc := (cw HT_.out Z5)) (h := ?_)
   refine pU 3 25 (hc := (cw HT_.out Z5)) (h := ?_)
   refine pU 4 26 (hc := (cw HT_.out Z5)) (h := ?_)
   refine pV 5 27 (hc := (cw HT_.out Z5)) (h := ?_)
   refine pV 6 28 (hc := (cw HT_.out Z5)) (h := ?_)
   refine pV 7 29 (hc := (cw HT_.out Z5)) (h := ?_)
   refine pV 8 30 (hc := (cw HT_.out Z5)) (h := ?_)
   refine pV 9 31 (hc := (cw HT_.out Z5)) (h := ?_)
   refine pV 10 32 (hc := (cw HT_.out Z5)) (h := ?_)
   refine pV 11 33 (hc := (cw HT_.out Z5)) (h := ?_)
   refine pU 12 34 (hc := (cw HT_.out Z5)) (h := ?_)
   refine done_ (done_of HT_.out Z5) ?_
   generalize wr.drew.drew = wz at HB B0 ⊢
   clear hHeld d
   have p := b3 B0.out
   have HZ := gz (And.intro HB.out.size (bB B0.out))
   go_wp2_with (first | ((with_reducible refine bI (N := 36) rfl ?_); refine Kd.N_lit k25 w.heap.size 25 ?hg (N' := 36) ?hd (xs := ([] : List S25)) (inner := []) (ok := G1 (fun k => P0_ k ∨ P1_1_ k ∨ P1_2_ k) w.heap.size) (okp := fun _ => False) ?hr (Reps.none _ _) (fun _ h => h.elim) (.inr (by have := HZ.out; omega)) HB.out HB.out.size Z24 ?_; (case hd => rfl); (case hg => rfl); (case hr => first | (go_simp; done) | (go_simp; rfl)); intro v6 w6 N6 b6 g6 _; have N6 := gz N6; have b6 := gz b6; have B6 := bkG B0 g6 Z24; clear g6) | ((with_reducible refine aK (b := .append) (xs := #[.tmp 36, .tmp 39]) rfl ?_); at_builtin; refine apF (w0 := w) (okp := fun k => P0_ k ∧ k < w.heap.size) (.tmp 36) (.tmp 39) i.toNat N6.out (Kd.F_take (Kd.V_F (vO H0 b6.out).out) HM.out.1) (List.length_take_of_le HM.out.1) (fun k hk => ⟨.inl ⟨.inl hk.1, hk.2⟩, dK N6 (.inl Z29)⟩) (fun k hk => .inr (by have := bB B6.out; omega)) b6.out b6.out.size HM.out.2.1 ?_; intro v7 w7 N7 b7 g7; have N7 := gz N7; have b7 := gz b7; have B7 := bkG B6 g7 (dK N6 (.inl Z8)); have q7 := b3 B7.out; clear g7) | ((with_reducible refine aK (b := .append) (xs := #[.tmp 41, .tmp 43]) rfl ?_); at_builtin; refine apN (w0 := w) (x := ⟨a1_0, l1_1, l1_2⟩) (okp := fun k => (P1_1_ k ∨ P1_2_ k) ∧ k < w.heap.size) (.tmp 41) (.tmp 43) N7.out (fC (vO H1 b7.out) (fun k hk => ⟨.inl hk.1, hk.2⟩)) (fC (vO H2 b7.out) (fun k hk => ⟨.inr hk.1, hk.2⟩)) (fun k hk => ⟨.inl ⟨.inr hk.1, hk.2⟩, dK N7 (.inl Z29)⟩) (fun k hk => .inr (by have := bB B7.out; omega)) b7.out b7.out.size HM.out.2.2.1 ?_; intro v8 w8 N8 b8 g8; have N8 := gz N8; have b8 := gz b8; have B8 := bkG B7 g8 (dK N7 (.inl Z8)); clear g8) | ((with_reducible refine aK (b := .append) (xs := #[.tmp 45, .tmp 48]) rfl ?_); at_builtin; refine apF (w0 := w) (okp := fun k => P0_ k ∧ k < w.heap.size) (.tmp 45) (.tmp 48) (l0.length - i.toNat) N8.out (hA3.out ▸ Kd.F_cut (c := c0) (Kd.V_F (vO H0 b8.out).out) HM.out.1 (vL H0)) List.length_drop (fun k hk => ⟨.inl ⟨.inl hk.1, hk.2⟩, dK N8 (.inl Z29)⟩) (fun k hk => .inr (by have := bB B8.out; omega)) b8.out b8.out.size HM.out.2.2.2 ?_; intro v9 w9 N9 b9 g9; clear g9))
   all_goals (go_ret; have N9 := Kd.N_V (base' := w.heap.size) N9; simp only [List.nil_append, List.append_assoc, List.cons_append] at N9 ⊢; exact ⟨_, rfl, fC ⟨N9⟩ (fun k hk => (G1q (P := fun k => P0_ k ∨ P1_1_ k ∨ P1_2_ k) hk).1), b9⟩)
end Go.Proofs.YtaccleilcdfapaaGreat.G
