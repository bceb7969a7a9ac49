import Derived.Test.YtfnkboilepgmoaaDoorUPre
import Derived.Test.YtfnkboilepgmoaaDoorUabx2
import Derived.Test.YtfnkboilepgmoaaDoorUax0
namespace Go.Proofs.YtfnkboilepgmoaaDoor.R
open Go.RowKit Go.Proofs.YtfnkboilepgmoaaDoorW.PrintWords Go.Proofs.YtfnkboilepgmoaaDoorW.PrintLast Go.Proofs.YtfnkboilepgmoaaDoorW.PrintMore
attribute [local go_sem] max2_int min2_int max_two min_two max_three min_three max_four min_four
set_option linter.unusedVariables false
set_option linter.unusedSimpArgs false
def quoinref02_checked.l0 : Nat → List (List (S36)) → Int → Option (Int)
 | 0, _, _ => none
 | k + 1, x0, x3 => if x3 < (x0.length : Int) then (if 0 ≤ x3 then ((quoinref02_Check.f k (rd_L2 x0 x3)).bind fun t290 => (if t290 = 0 then (quoinref02_checked.l0 k x0 (wrap64 (x3 + 1))) else (some t290))) else (none)) else (some 0)
def quoinref02_checked.f (k : Nat) (l0 : List (List (S36))) : Option (Int) := quoinref02_checked.l0 k l0 0
set_option maxHeartbeats 8000000 in
set_option maxRecDepth 100000 in
theorem quoinref02_checked.calls (k : Nat) (A0 : Option Addr) (c0 : Nat) (l0 : List (List (S36))) (r : Int) (w : World) (hr0 : Kd.C (Kd.slice 36 k36) w A0 l0.length l0) (hc0 : l0.length ≤ c0) (h : quoinref02_checked.f k l0 = some r) :
  Calls Tryd.prog 48 #[.slice A0 l0.length c0] w fun e w' => e = .returned (.int .i64 r) ∧ Drawn0 w w' := by
 have HR0 := Aside0.mk hr0
 have HC0 := Aside0.mk hc0
 clear hr0 hc0
 have H : (quoinref02_checked.l0 k l0 0) = some r := h
 clear h
 have H' := Aside0.mk H
 clear H
 go_enter Tryd.func48, Tryd.ntmps48
 go_wp2
 go_loopg [3] k (fun kq v3 w' => ∃ (x3_1 : Int), v3 = .int .i64 x3_1 ∧ Aside0 (quoinref02_checked.l0 kq l0 x3_1 = some r) ∧ Aside0 (kq ≤ k) ∧ Drawn0 w w')
 case atStart => exact ⟨(0), Z2, H', ⟨Nat.le_refl _⟩, Z8⟩
 case round =>
  clear H'
  obtain ⟨x3_1, rfl, HA, HK1, ⟨m1, rfl⟩⟩ := hrel
  cases gk with
  | zero => exact absurd HA.out (by simp [quoinref02_checked.l0])
  | succ k1 =>
   have H := HA.out
   clear HA
   simp only [quoinref02_checked.l0] at H
   by_cases c2 : x3_1 < (l0.length : Int)
   ·rw [if_pos c2] at H
    have c2b0 := decide_eq_true c2
    clear c2
    by_cases c3 : 0 ≤ x3_1
    ·rw [if_pos c3] at H
     have c3b0 := decide_eq_true c3
     clear c3
     replace H := bS H
     obtain ⟨t290, A4, H⟩ := H
     try dsimp only at H
     by_cases c5 : t290 = 0
     ·rw [if_pos c5] at H
      have c5b0 := e1 c5
      have c5b1 := e2 c5
      clear c5
      have H' := Aside0.mk H
      clear H
      have p289 : 0 ≤ (x3_1 : Int) := of_decide_eq_true Z1
      have q289 : x3_1 < (l0.length : Int) := of_decide_eq_true Z1
      obtain ⟨ad289, A289_0, c289_0, e289, hx289_0, hl289_0, hi289_0⟩ := at_L2 HR0.out x3_1 p289 q289
      cases e289
      have HR289_0 := Aside0.mk hi289_0
      have HC289_0 := Aside0.mk hl289_0
      clear hi289_0 hl289_0
      replace p289 := eq_true p289
      replace q289 := eq_true q289
      go_wp2_with (first | ((with_reducible refine gC 18 rfl ?_); refine goesL_ (some 15) rfl rfl Tryd.func18 Z5 rfl #[.slice A289_0 (rd_L2 l0 x3_1).length c289_0] rfl Z3 ?_; (with_reducible refine (quoinref02_Check.calls k1 _ _ (rd_L2 l0 x3_1) t290 _ ?side1 ?side2 A4.out).mono ?_); (case side1 => repeat (first | exact HR289_0.out | (with_reducible refine Kd.C_alloc ?_ _) | (with_reducible refine Kd.C_drewN ?_ _) | (with_reducible refine Kd.C_drew ?_))); (case side2 => exact HC289_0.out); rintro e w' ⟨rfl, ⟨nd, rfl⟩⟩; refine ⟨_, rfl, ?_⟩))
      go_roundg k1
      case measure => have := HK1.out; omega
      case rel => exact ⟨(wrap64 (x3_1 + 1)), Z2, H', ⟨Z18⟩, Z8⟩
     ·rw [if_neg c5] at H
      have c5b0 := e3 c5
      have c5b1 := e4 c5
      obtain rfl := Option.some.inj H
      have p289 : 0 ≤ (x3_1 : Int) := of_decide_eq_true Z1
      have q289 : x3_1 < (l0.length : Int) := of_decide_eq_true Z1
      obtain ⟨ad289, A289_0, c289_0, e289, hx289_0, hl289_0, hi289_0⟩ := at_L2 HR0.out x3_1 p289 q289
      cases e289
      have HR289_0 := Aside0.mk hi289_0
      have HC289_0 := Aside0.mk hl289_0
      clear hi289_0 hl289_0
      replace p289 := eq_true p289
      replace q289 := eq_true q289
      go_wp2_with (first | ((with_reducible refine gC 18 rfl ?_); refine goesL_ (some 15) rfl rfl Tryd.func18 Z5 rfl #[.slice A289_0 (rd_L2 l0 x3_1).length c289_0] rfl Z3 ?_; (with_reducible refine (quoinref02_Check.calls k1 _ _ (rd_L2 l0 x3_1) t290 _ ?side1 ?side2 A4.out).mono ?_); (case side1 => repeat (first | exact HR289_0.out | (with_reducible refine Kd.C_alloc ?_ _) | (with_reducible refine Kd.C_drewN ?_ _) | (with_reducible refine Kd.C_drew ?_))); (case side2 => exact HC289_0.out); rintro e w' ⟨rfl, ⟨nd, rfl⟩⟩; refine ⟨_, rfl, ?_⟩))
      go_ret
      exact ⟨Z2, Z8⟩
    ·rw [if_neg c3] at H
     exact absurd H Z19
   ·rw [if_neg c2] at H
    have c2b0 := decide_eq_false c2
    clear c2
    obtain rfl := Option.some.inj H
    go_wp2
    go_ret
    exact ⟨Z2, Z8⟩
def quoinref02_Cuts.f (k : Nat) (l0 : List (List (S36))) : Option (List Int × Int) := (quoinref02_checked.f k l0).bind fun t492 => (if t492 = 0 then ((quoinref02_starts.f k l0).bind fun t493 => (if (t493.length : Int) > 2048 then (some (([] : List Int), 21)) else (some (t493, 0)))) else (some (([] : List Int), t492)))
set_option maxHeartbeats 8000000 in
set_option maxRecDepth 100000 in
theorem quoinref02_Cuts.calls (k : Nat) (A0 : Option Addr) (c0 : Nat) (l0 : List (List (S36))) (r1 : List Int) (r2 : Int) (w : World) (hr0 : Kd.C (Kd.slice 36 k36) w A0 l0.length l0) (hc0 : l0.length ≤ c0) (h : quoinref02_Cuts.f k l0 = some (r1, r2)) :
  Calls Tryd.prog 38 #[.slice A0 l0.length c0] w fun e w' => ∃ v0_ : Value, e = .returned (.tuple #[v0_, .int .i64 r2]) ∧ Kd.R (Kd.int .i32) 21 w' w.heap.size (fun _ => True) v0_ r1 ∧ Below w.heap.size w w' := by
 have HR0 := Aside0.mk hr0
 have HC0 := Aside0.mk hc0
 clear hr0 hc0
 have HB := Aside0.mk (Below.refl w.heap.size w)
 have H : ((quoinref02_checked.f k l0).bind fun t492 => (if t492 = 0 then ((quoinref02_starts.f k l0).bind fun t493 => (if (t493.length : Int) > 2048 then (some (([] : List Int), 21)) else (some (t493, 0)))) else (some (([] : List Int), t492)))) = some (r1, r2) := h
 clear h
 replace H := bS H
 obtain ⟨t492, A2, H⟩ := H
 try dsimp only at H
 by_cases c3 : t492 = 0
 ·rw [if_pos c3] at H
  have c3b0 := e1 c3
  have c3b1 := e2 c3
  clear c3
  replace H := bS H
  obtain ⟨t493, A4, H⟩ := H
  try dsimp only at H
  by_cases c5 : (t493.length : Int) > 2048
  ·rw [if_pos c5] at H
   have c5b0 : decide (2048 < (t493.length : Int)) = true := decide_eq_true c5
   have c5b1 : decide (2048 < t493.length) = true := decide_eq_true Z20
   clear c5
   simp only [Option.some.injEq, Prod.mk.injEq] at H
   obtain ⟨rfl, rfl⟩ := H
   go_enter Tryd.func38, Tryd.ntmps38
   go_wp2_with (first | ((with_reducible refine gC 48 rfl ?_); refine goesL_ (some 7) rfl rfl Tryd.func48 Z5 rfl #[.slice A0 l0.length c0] rfl Z3 ?_; (with_reducible refine (quoinref02_checked.calls k _ _ l0 t492 _ ?side1 ?side2 A2.out).mono ?_); (case side1 => repeat (first | exact HR0.out | (with_reducible refine Kd.C_alloc ?_ _) | (with_reducible refine Kd.C_drewN ?_ _) | (with_reducible refine Kd.C_drew ?_))); (case side2 => exact HC0.out); rintro e w' ⟨rfl, ⟨nd, rfl⟩⟩; refine ⟨_, rfl, ?_⟩) | ((with_reducible refine gC 63 rfl ?_); refine goesL_ (some 12) rfl rfl Tryd.func63 Z5 rfl #[.slice A0 l0.length c0] rfl Z3 ?_; (with_reducible refine (quoinref02_starts.calls k _ _ l0 t493 _ ?side1 ?side2 A4.out).mono ?_); (case side1 => repeat (first | exact HR0.out | (with_reducible refine Kd.C_alloc ?_ _) | (with_reducible refine Kd.C_drewN ?_ _) | (with_reducible refine Kd.C_drew ?_))); (case side2 => exact HC0.out); rintro e w6 ⟨v494, rfl, ho0, hb⟩; refine ⟨_, rfl, ?_⟩; have HO495 := Aside0.mk (Kd.R_lower ho0 (below_size zB)); replace HB := Aside0.mk (below_step zB hb); (try clear hb); (try clear hb2); (try clear hk); (try clear hi); (try clear ho0); obtain ⟨Ao7, co7, eo7⟩ := Kd.R_slice HO495.out; subst eo7))
   go_ret2
   exact ⟨_, Z4, Z12, Z0⟩
  ·rw [if_neg c5] at H
   have c5b0 : decide (2048 < (t493.length : Int)) = false := decide_eq_false c5
   have c5b1 : decide (2048 < t493.length) = false := decide_eq_false Z20
   clear c5
   simp only [Option.some.injEq, Prod.mk.injEq] at H
   obtain ⟨rfl, rfl⟩ := H
   go_enter Tryd.func38, Tryd.ntmps38
   go_wp2_with (first | ((with_reducible refine gC 48 rfl ?_); refine goesL_ (some 7) rfl rfl Tryd.func48 Z5 rfl #[.slice A0 l0.length c0] rfl Z3 ?_; (with_reducible refine (quoinref02_checked.calls k _ _ l0 t492 _ ?side1 ?side2 A2.out).mono ?_); (case side1 => repeat (first | exact HR0.out | (with_reducible refine Kd.C_alloc ?_ _) | (with_reducible refine Kd.C_drewN ?_ _) | (with_reducible refine Kd.C_drew ?_))); (case side2 => exact HC0.out); rintro e w' ⟨rfl, ⟨nd, rfl⟩⟩; refine ⟨_, rfl, ?_⟩) | ((with_reducible refine gC 63 rfl ?_); refine goesL_ (some 12) rfl rfl Tryd.func63 Z5 rfl #[.slice A0 l0.length c0] rfl Z3 ?_; (with_reducible refine (quoinref02_starts.calls k _ _ l0 t493 _ ?side1 ?side2 A4.out).mono ?_); (case side1 => repeat (first | exact HR0.out | (with_reducible refine Kd.C_alloc ?_ _) | (with_reducible refine Kd.C_drewN ?_ _) | (with_reducible refine Kd.C_drew ?_))); (case side2 => exact HC0.out); rintro e w8 ⟨v494, rfl, ho0, hb⟩; refine ⟨_, rfl, ?_⟩; have HO495 := Aside0.mk (Kd.R_lower ho0 (below_size zB)); replace HB := Aside0.mk (below_step zB hb); (try clear hb); (try clear hb2); (try clear hk); (try clear hi); (try clear ho0); obtain ⟨Ao9, co9, eo9⟩ := Kd.R_slice HO495.out; subst eo9))
   go_ret2
   exact ⟨_, Z4, by (with_reducible repeat (first | apply Kd.R_alloc | apply Kd.R_drewN | apply Kd.R_drew)); exact HO495.out, Z0⟩
 ·rw [if_neg c3] at H
  have c3b0 := e3 c3
  have c3b1 := e4 c3
  simp only [Option.some.injEq, Prod.mk.injEq] at H
  obtain ⟨rfl, rfl⟩ := H
  go_enter Tryd.func38, Tryd.ntmps38
  go_wp2_with (first | ((with_reducible refine gC 48 rfl ?_); refine goesL_ (some 7) rfl rfl Tryd.func48 Z5 rfl #[.slice A0 l0.length c0] rfl Z3 ?_; (with_reducible refine (quoinref02_checked.calls k _ _ l0 t492 _ ?side1 ?side2 A2.out).mono ?_); (case side1 => repeat (first | exact HR0.out | (with_reducible refine Kd.C_alloc ?_ _) | (with_reducible refine Kd.C_drewN ?_ _) | (with_reducible refine Kd.C_drew ?_))); (case side2 => exact HC0.out); rintro e w' ⟨rfl, ⟨nd, rfl⟩⟩; refine ⟨_, rfl, ?_⟩))
  go_ret2
  exact ⟨_, Z4, Z12, Z0⟩
def quoinref02_Class.l0 : Nat → List Int → Int → Int → Int → Option (Int)
 | 0, _, _, _, _ => none
 | k + 1, x0, x1, x5, x6 => if x6 < (x0.length : Int) then (if 0 ≤ x6 then (if (rd x0 x6) ≤ x1 then (quoinref02_Class.l0 k x0 x1 (wrap64 (x5 + 1)) (wrap64 (x6 + 1))) else (quoinref02_Class.l0 k x0 x1 x5 (wrap64 (x6 + 1)))) else (none)) else (some x5)
def quoinref02_Class.f (k : Nat) (l0 : List Int) (a1 : Int) : Option (Int) := quoinref02_Class.l0 k l0 a1 0 1
set_option maxHeartbeats 8000000 in
set_option maxRecDepth 100000 in
theorem quoinref02_Class.calls (k : Nat) (A0 : Option Addr) (c0 : Nat) (l0 : List Int) (a1 : Int) (r : Int) (w : World) (hr0 : Kd.C (Kd.int .i32) w A0 l0.length l0) (hc0 : l0.length ≤ c0) (h : quoinref02_Class.f k l0 a1 = some r) :
  Calls Tryd.prog 40 #[.slice A0 l0.length c0, .int .i32 a1] w fun e w' => e = .returned (.int .i64 r) ∧ Drawn0 w w' := by
 have HR0 := Aside0.mk hr0
 have HC0 := Aside0.mk hc0
 clear hr0 hc0
 have H : (quoinref02_Class.l0 k l0 a1 0 1) = some r := h
 clear h
 have H' := Aside0.mk H
 clear H
 go_enter Tryd.func40, Tryd.ntmps40
 go_wp2
 go_loopg [5, 6] k (fun kq v5 v6 w' => ∃ (x5_1 : Int) (x6_1 : Int), v5 = .int .i64 x5_1 ∧ v6 = .int .i64 x6_1 ∧ Aside0 (quoinref02_Class.l0 kq l0 a1 x5_1 x6_1 = some r) ∧ Aside0 (kq ≤ k) ∧ Drawn0 w w')
 case atStart => exact ⟨(0), (1), Z2, Z2, H', ⟨Nat.le_refl _⟩, Z8⟩
 case round =>
  clear H'
  try clear p2
  obtain ⟨x5_1, x6_1, rfl, rfl, HA, HK1, ⟨m1, rfl⟩⟩ := hrel
  cases gk with
  | zero => exact absurd HA.out (by simp [quoinref02_Class.l0])
  | succ k1 =>
   have H := HA.out
   clear HA
   simp only [quoinref02_Class.l0] at H
   by_cases c3 : x6_1 < (l0.length : Int)
   ·rw [if_pos c3] at H
    have c3b0 := decide_eq_true c3
    clear c3
    by_cases c4 : 0 ≤ x6_1
    ·rw [if_pos c4] at H
     have c4b0 := decide_eq_true c4
     clear c4
     by_cases c5 : (rd l0 x6_1) ≤ a1
     ·rw [if_pos c5] at H
      have c5b0 := decide_eq_true c5
      clear c5
      have H' := Aside0.mk H
      clear H
      have p497 : 0 ≤ (x6_1 : Int) := of_decide_eq_true Z1
      have q497 : x6_1 < (l0.length : Int) := of_decide_eq_true Z1
      obtain ⟨ad497, e497, hx497_0⟩ := Kd.at_int HR0.out x6_1 p497 q497
      cases e497
      replace p497 := eq_true p497
      replace q497 := eq_true q497
      go_wp2
      go_roundg k1
      case measure => have := HK1.out; omega
      case rel => exact ⟨(wrap64 (x5_1 + 1)), (wrap64 (x6_1 + 1)), Z2, Z2, H', ⟨Z18⟩, Z8⟩
     ·rw [if_neg c5] at H
      have c5b0 := decide_eq_false c5
      clear c5
      have H' := Aside0.mk H
      clear H
      have p497 : 0 ≤ (x6_1 : Int) := of_decide_eq_true Z1
      have q497 : x6_1 < (l0.length : Int) := of_decide_eq_true Z1
      obtain ⟨ad497, e497, hx497_0⟩ := Kd.at_int HR0.out x6_1 p497 q497
      cases e497
      replace p497 := eq_true p497
      replace q497 := eq_true q497
      go_wp2
      go_roundg k1
      case measure => have := HK1.out; omega
      case rel => exact ⟨(x5_1), (wrap64 (x6_1 + 1)), Z2, Z2, H', ⟨Z18⟩, Z8⟩
    ·rw [if_neg c4] at H
     exact absurd H Z19
   ·rw [if_neg c3] at H
    have c3b0 := decide_eq_false c3
    clear c3
    obtain rfl := Option.some.inj H
    go_wp2
    go_ret
    exact ⟨Z2, Z8⟩
mutual
def quoinlaw02_RunesCuts.j0 : Nat → Int → List Int → Int → List Int → Bool → Option (Bool)
 | 0, _, _, _, _, _ => none
 | k + 1, x1, x5, x6, x7, x29 => if x29 = true then (some false) else (quoinlaw02_RunesCuts.l0 k x1 x5 x6 x7 0)
def quoinlaw02_RunesCuts.l0 : Nat → Int → List Int → Int → List Int → Int → Option (Bool)
 | 0, _, _, _, _, _ => none
 | k + 1, x1, x5, x6, x7, x9 => if x9 < (x5.length : Int) then (if 0 ≤ x9 then (if x9 < (x7.length : Int) then (if (rd x5 x9) = (rd x7 x9) then (quoinlaw02_RunesCuts.l0 k x1 x5 x6 x7 (wrap64 (x9 + 1))) else (some false)) else (none)) else (none)) else (if x6 = 0 then ((runes_Class.f k x5 x1).bind fun t508 => ((quoinref02_Class.f k x7 x1).bind fun t509 => (if t508 = t509 then ((quoinlaw02_awake.f k).bind fun t510 => (some t510)) else (some false)))) else ((quoinlaw02_awake.f k).bind fun t511 => (some t511)))
end
def quoinlaw02_RunesCuts.f (k : Nat) (l0 : List (List (S36))) (a1 : Int) : Option (Bool) := (runes_Cuts.f k l0).bind fun bt498 => ((quoinref02_Cuts.f k l0).bind fun bt502 => (if bt498.2 = bt502.2 then (quoinlaw02_RunesCuts.j0 k a1 bt498.1 bt498.2 bt502.1 ((bt498.1.length : Int) != (bt502.1.length : Int))) else (quoinlaw02_RunesCuts.j0 k a1 bt498.1 bt498.2 bt502.1 true)))
set_option maxHeartbeats 8000000 in
set_option maxRecDepth 100000 in
theorem quoinlaw02_RunesCuts.calls (k : Nat) (A0 : Option Addr) (c0 : Nat) (l0 : List (List (S36))) (a1 : Int) (r : Bool) (w : World) (hr0 : Kd.C (Kd.slice 36 k36) w A0 l0.length l0) (hc0 : l0.length ≤ c0) (h : quoinlaw02_RunesCuts.f k l0 a1 = some r) :
  Calls Tryd.prog 10 #[.slice A0 l0.length c0, .int .i32 a1] w fun e w' => e = .returned (.bool r) ∧ Below w.heap.size w w' := by
 have HR0 := Aside0.mk hr0
 have HC0 := Aside0.mk hc0
 clear hr0 hc0
 have HB := Aside0.mk (Below.refl w.heap.size w)
 have H : ((runes_Cuts.f k l0).bind fun bt498 => ((quoinref02_Cuts.f k l0).bind fun bt502 => (if bt498.2 = bt502.2 then (quoinlaw02_RunesCuts.j0 k a1 bt498.1 bt498.2 bt502.1 ((bt498.1.length : Int) != (bt502.1.length : Int))) else (quoinlaw02_RunesCuts.j0 k a1 bt498.1 bt498.2 bt502.1 true)))) = some r := h
 clear h
 replace H := bS H
 obtain ⟨⟨t498, t499⟩, A3, H⟩ := H
 try dsimp only at H
 replace H := bS H
 obtain ⟨⟨t502, t503⟩, A4, H⟩ := H
 try dsimp only at H
 have HC5 := Aside0.mk H
 clear H
 go_enter Tryd.func10, Tryd.ntmps10
 go_upto_region 3 with (first | (go_at_call 37; (with_reducible refine (runes_Cuts.calls k _ _ l0 t498 t499 _ ?side1 ?side2 A3.out).mono ?_); (case side1 => repeat (first | exact HR0.out | (with_reducible refine Kd.C_alloc ?_ _) | (with_reducible refine Kd.C_drewN ?_ _) | (with_reducible refine Kd.C_drew ?_))); (case side2 => exact HC0.out); rintro e w6 ⟨v500, rfl, ho0, hb⟩; have HO501 := Aside0.mk (Kd.R_lower ho0 (below_size zB)); replace HB := Aside0.mk (below_step zB hb); (try clear hb); (try clear hb2); (try clear hk); (try clear hi); (try clear ho0)) | (go_at_call 38; (with_reducible refine (quoinref02_Cuts.calls k _ _ l0 t502 t503 _ ?side1 ?side2 A4.out).mono ?_); (case side1 => repeat (first | exact (Kd.C_below HR0.out HB.out) | (with_reducible refine Kd.C_alloc ?_ _) | (with_reducible refine Kd.C_drewN ?_ _) | (with_reducible refine Kd.C_drew ?_))); (case side2 => exact HC0.out); rintro e w7 ⟨v504, rfl, ho0, hb⟩; have HO505 := Aside0.mk (Kd.R_lower (Kd.R_new' ho0 (Kd.R_lt (kK HO501))) (below_size zB)); replace HO501 := Aside0.mk (Kd.R_elder' (kK HO501) (Kd.R_base ho0) hb); replace HB := Aside0.mk (below_step zB hb); (try clear hb); (try clear hb2); (try clear hk); (try clear hi); (try clear ho0)))
 repeat (go_quiet (first | (go_at_call 37; (with_reducible refine (runes_Cuts.calls k _ _ l0 t498 t499 _ ?side1 ?side2 A3.out).mono ?_); (case side1 => repeat (first | exact HR0.out | (with_reducible refine Kd.C_alloc ?_ _) | (with_reducible refine Kd.C_drewN ?_ _) | (with_reducible refine Kd.C_drew ?_))); (case side2 => exact HC0.out); rintro e w6 ⟨v500, rfl, ho0, hb⟩; have HO501 := Aside0.mk (Kd.R_lower ho0 (below_size zB)); replace HB := Aside0.mk (below_step zB hb); (try clear hb); (try clear hb2); (try clear hk); (try clear hi); (try clear ho0)) | (go_at_call 38; (with_reducible refine (quoinref02_Cuts.calls k _ _ l0 t502 t503 _ ?side1 ?side2 A4.out).mono ?_); (case side1 => repeat (first | exact (Kd.C_below HR0.out HB.out) | (with_reducible refine Kd.C_alloc ?_ _) | (with_reducible refine Kd.C_drewN ?_ _) | (with_reducible refine Kd.C_drew ?_))); (case side2 => exact HC0.out); rintro e w7 ⟨v504, rfl, ho0, hb⟩; have HO505 := Aside0.mk (Kd.R_lower (Kd.R_new' ho0 (Kd.R_lt (kK HO501))) (below_size zB)); replace HO501 := Aside0.mk (Kd.R_elder' (kK HO501) (Kd.R_base ho0) hb); replace HB := Aside0.mk (below_step zB hb); (try clear hb); (try clear hb2); (try clear hk); (try clear hi); (try clear ho0))); go_upto_region 3 with (first | (go_at_call 37; (with_reducible refine (runes_Cuts.calls k _ _ l0 t498 t499 _ ?side1 ?side2 A3.out).mono ?_); (case side1 => repeat (first | exact HR0.out | (with_reducible refine Kd.C_alloc ?_ _) | (with_reducible refine Kd.C_drewN ?_ _) | (with_reducible refine Kd.C_drew ?_))); (case side2 => exact HC0.out); rintro e w6 ⟨v500, rfl, ho0, hb⟩; have HO501 := Aside0.mk (Kd.R_lower ho0 (below_size zB)); replace HB := Aside0.mk (below_step zB hb); (try clear hb); (try clear hb2); (try clear hk); (try clear hi); (try clear ho0)) | (go_at_call 38; (with_reducible refine (quoinref02_Cuts.calls k _ _ l0 t502 t503 _ ?side1 ?side2 A4.out).mono ?_); (case side1 => repeat (first | exact (Kd.C_below HR0.out HB.out) | (with_reducible refine Kd.C_alloc ?_ _) | (with_reducible refine Kd.C_drewN ?_ _) | (with_reducible refine Kd.C_drew ?_))); (case side2 => exact HC0.out); rintro e w7 ⟨v504, rfl, ho0, hb⟩; have HO505 := Aside0.mk (Kd.R_lower (Kd.R_new' ho0 (Kd.R_lt (kK HO501))) (below_size zB)); replace HO501 := Aside0.mk (Kd.R_elder' (kK HO501) (Kd.R_base ho0) hb); replace HB := Aside0.mk (below_step zB hb); (try clear hb); (try clear hb2); (try clear hk); (try clear hi); (try clear ho0))))
 (try simp only [Act.put, List.setIfInBounds_toArray, List.set_cons_zero, List.set_cons_succ])
 go_cut [29] (fun v29 wc => ∃ (kq : Nat) (x29_4 : Bool), v29 = .bool x29_4 ∧ Aside0 (quoinlaw02_RunesCuts.j0 kq a1 t498 t499 t502 x29_4 = some r) ∧ Aside0 (kq ≤ k) ∧ Aside0 (Kd.R (Kd.int .i32) 21 wc w.heap.size (fun k_ => some k_ ≠ (v504 : Value).ownBlock) v500 t498) ∧ Aside0 (Kd.R (Kd.int .i32) 21 wc w.heap.size (fun k_ => some k_ ≠ (v500 : Value).ownBlock) v504 t502) ∧ Aside0 (Below w.heap.size w wc))
 case first =>
  have H := HC5.out
  clear HC5
  by_cases c8 : t499 = t503
  ·rw [if_pos c8] at H
   have c8b0 := e1 c8
   have c8b1 := e2 c8
   clear c8
   (first | rw [c8b0] | (simp only [i64_w, i32_w]; rw [c8b0]) | skip)
   have H' := Aside0.mk H
   clear H
   obtain ⟨Ao9, co9, eo9⟩ := Kd.R_slice HO501.out
   subst eo9
   obtain ⟨Ao10, co10, eo10⟩ := Kd.R_slice HO505.out
   subst eo10
   go_wp2
   repeat (go_quiet (fail); try go_wp2)
   go_meet
   case rel => exact ⟨_, (((t498.length : Int) != (t502.length : Int))), Z2, H', ⟨by first | omega | exact Nat.le_refl _⟩, ⟨by (with_reducible repeat (first | apply Kd.R_alloc | apply Kd.R_drewN | apply Kd.R_drew)); exact Kd.R_mono HO501.out (fun _ hk => hk.2)⟩, ⟨by (with_reducible repeat (first | apply Kd.R_alloc | apply Kd.R_drewN | apply Kd.R_drew)); exact Kd.R_mono HO505.out (fun _ hk => hk.2)⟩, ⟨Z0⟩⟩
  ·rw [if_neg c8] at H
   have c8b0 := e3 c8
   have c8b1 := e4 c8
   (first | rw [c8b0] | (simp only [i64_w, i32_w]; rw [c8b0]) | skip)
   have H' := Aside0.mk H
   clear H
   go_wp2
   repeat (go_quiet (fail); try go_wp2)
   go_meet
   case rel => exact ⟨_, (true), Z2, H', ⟨by first | omega | exact Nat.le_refl _⟩, ⟨by (with_reducible repeat (first | apply Kd.R_alloc | apply Kd.R_drewN | apply Kd.R_drew)); exact Kd.R_mono HO501.out (fun _ hk => hk.2)⟩, ⟨by (with_reducible repeat (first | apply Kd.R_alloc | apply Kd.R_drewN | apply Kd.R_drew)); exact Kd.R_mono HO505.out (fun _ hk => hk.2)⟩, ⟨Z0⟩⟩
 case rest =>
  clear HC5
  try clear c1
  try clear p2
  try clear c8
  try clear c8b0
  try clear c8b1
  try clear c10
  obtain ⟨kq, x29_4, rfl, HA, HJ4, HO_5, HO_7, HB⟩ := hcut
  cases kq with
  | zero => exact absurd HA.out (by simp [quoinlaw02_RunesCuts.j0])
  | succ kj4 =>
   have H := HA.out
   clear HA
   simp only [quoinlaw02_RunesCuts.j0] at H
   by_cases c11 : x29_4 = true
   ·subst c11
    have H1 : (some false) = some r := by rw [if_pos rfl] at H; exact H
    clear H
    have H := H1
    clear H1
    obtain rfl := Option.some.inj H
    go_wp2
    repeat (go_quiet (fail); try go_wp2)
    go_ret
    exact ⟨Z4, Z0⟩
   ·replace c11 := Bool.eq_false_iff.mpr c11
    subst c11
    have H1 : (quoinlaw02_RunesCuts.l0 kj4 a1 t498 t499 t502 0) = some r := by rw [if_neg (show ¬ (false = true) by decide)] at H; exact H
    clear H
    have H := H1
    clear H1
    have H' := Aside0.mk H
    clear H
    go_wp2
    repeat (go_quiet (fail); try go_wp2)
    go_loopg [9] kj4 (fun kq v9 w' => ∃ (x9_2 : Int), v9 = .int .i64 x9_2 ∧ Aside0 (quoinlaw02_RunesCuts.l0 kq a1 t498 t499 t502 x9_2 = some r) ∧ Aside0 (kq ≤ kj4) ∧ Aside0 (Kd.R (Kd.int .i32) 21 w' w.heap.size (fun k_ => some k_ ≠ (v504 : Value).ownBlock) v500 t498) ∧ Aside0 (Kd.R (Kd.int .i32) 21 w' w.heap.size (fun k_ => some k_ ≠ (v500 : Value).ownBlock) v504 t502) ∧ Aside0 (Below w.heap.size w w'))
    case atStart => exact ⟨(0), Z2, H', ⟨Nat.le_refl _⟩, ⟨Z17⟩, ⟨Z13⟩, ⟨Z0⟩⟩
    case round =>
     clear H'
     try clear c1
     try clear p2
     try clear c8
     try clear c8b0
     try clear c8b1
     try clear c10
     try clear c11
     try clear p2
     obtain ⟨x9_2, rfl, HA, HK2, HO_5, HO_7, HB⟩ := hrel
     cases gk with
     | zero => exact absurd HA.out (by simp [quoinlaw02_RunesCuts.l0])
     | succ k2 =>
      have H := HA.out
      clear HA
      simp only [quoinlaw02_RunesCuts.l0] at H
      by_cases c12 : x9_2 < (t498.length : Int)
      ·rw [if_pos c12] at H
       have c12b0 := decide_eq_true c12
       clear c12
       by_cases c13 : 0 ≤ x9_2
       ·rw [if_pos c13] at H
        have c13b0 := decide_eq_true c13
        clear c13
        by_cases c14 : x9_2 < (t502.length : Int)
        ·rw [if_pos c14] at H
         have c14b0 := decide_eq_true c14
         clear c14
         by_cases c15 : (rd t498 x9_2) = (rd t502 x9_2)
         ·rw [if_pos c15] at H
          have c15b0 := e1 c15
          have c15b1 := e2 c15
          clear c15
          have H' := Aside0.mk H
          clear H
          obtain ⟨Ao16, co16, eo16⟩ := Kd.R_slice HO_5.out
          subst eo16
          have p506 : 0 ≤ (x9_2 : Int) := of_decide_eq_true Z1
          have q506 : x9_2 < (t498.length : Int) := of_decide_eq_true Z1
          obtain ⟨ad506, e506, hx506_0⟩ := Kd.at_int (Kd.R_reads' HO_5.out).2.2 x9_2 p506 q506
          cases e506
          replace p506 := eq_true p506
          replace q506 := eq_true q506
          obtain ⟨Ao17, co17, eo17⟩ := Kd.R_slice HO_7.out
          subst eo17
          have p507 : 0 ≤ (x9_2 : Int) := of_decide_eq_true Z1
          have q507 : x9_2 < (t502.length : Int) := of_decide_eq_true Z1
          obtain ⟨ad507, e507, hx507_0⟩ := Kd.at_int (Kd.R_reads' HO_7.out).2.2 x9_2 p507 q507
          cases e507
          replace p507 := eq_true p507
          replace q507 := eq_true q507
          go_wp2
          repeat (go_quiet (fail); try go_wp2)
          go_roundg k2
          case measure => have := HJ4.out; have := HK2.out; omega
          case rel => exact ⟨(wrap64 (x9_2 + 1)), Z2, H', ⟨by have := HJ4.out; have := HK2.out; omega⟩, ⟨Z17⟩, ⟨Z13⟩, ⟨Z0⟩⟩
         ·rw [if_neg c15] at H
          have c15b0 := e3 c15
          have c15b1 := e4 c15
          obtain rfl := Option.some.inj H
          obtain ⟨Ao18, co18, eo18⟩ := Kd.R_slice HO_5.out
          subst eo18
          have p506 : 0 ≤ (x9_2 : Int) := of_decide_eq_true Z1
          have q506 : x9_2 < (t498.length : Int) := of_decide_eq_true Z1
          obtain ⟨ad506, e506, hx506_0⟩ := Kd.at_int (Kd.R_reads' HO_5.out).2.2 x9_2 p506 q506
          cases e506
          replace p506 := eq_true p506
          replace q506 := eq_true q506
          obtain ⟨Ao19, co19, eo19⟩ := Kd.R_slice HO_7.out
          subst eo19
          have p507 : 0 ≤ (x9_2 : Int) := of_decide_eq_true Z1
          have q507 : x9_2 < (t502.length : Int) := of_decide_eq_true Z1
          obtain ⟨ad507, e507, hx507_0⟩ := Kd.at_int (Kd.R_reads' HO_7.out).2.2 x9_2 p507 q507
          cases e507
          replace p507 := eq_true p507
          replace q507 := eq_true q507
          go_wp2
          repeat (go_quiet (fail); try go_wp2)
          go_ret
          exact ⟨Z4, Z0⟩
        ·rw [if_neg c14] at H
         exact absurd H Z19
       ·rw [if_neg c13] at H
        exact absurd H Z19
      ·rw [if_neg c12] at H
       have c12b0 := decide_eq_false c12
       clear c12
       by_cases c20 : t499 = 0
       ·rw [if_pos c20] at H
        have c20b0 := e1 c20
        have c20b1 := e2 c20
        clear c20
        replace H := bS H
        obtain ⟨t508, A21, H⟩ := H
        try dsimp only at H
        replace H := bS H
        obtain ⟨t509, A22, H⟩ := H
        try dsimp only at H
        by_cases c23 : t508 = t509
        ·rw [if_pos c23] at H
         have c23b0 := e1 c23
         have c23b1 := e2 c23
         clear c23
         replace H := bS H
         obtain ⟨t510, A24, H⟩ := H
         try dsimp only at H
         obtain rfl := Option.some.inj H
         obtain ⟨Ao25, co25, eo25⟩ := Kd.R_slice HO_5.out
         subst eo25
         go_wp2_with (first | (go_at_call 39; (with_reducible refine (runes_Class.calls k2 _ _ t498 a1 t508 _ ?side1 ?side2 A21.out).mono ?_); (case side1 => repeat (first | exact (Kd.R_reads' HO_5.out).2.2 | (with_reducible refine Kd.C_alloc ?_ _) | (with_reducible refine Kd.C_drewN ?_ _) | (with_reducible refine Kd.C_drew ?_))); (case side2 => exact (Kd.R_reads' HO_5.out).2.1); rintro e w' ⟨rfl, ⟨nd, rfl⟩⟩; (try first | exact ⟨rfl, _, World.drewN_drewN _ _ _⟩ | exact ⟨rfl, _, Eq.trans (World.drewN_drewN _ _ _) (congrArg (World.drewN _) (Nat.add_assoc _ _ _))⟩); obtain ⟨Ao26, co26, eo26⟩ := Kd.R_slice HO_7.out; subst eo26) | (go_at_call 40; (with_reducible refine (quoinref02_Class.calls k2 _ _ t502 a1 t509 _ ?side1 ?side2 A22.out).mono ?_); (case side1 => repeat (first | exact (Kd.R_reads' HO_7.out).2.2 | (with_reducible refine Kd.C_alloc ?_ _) | (with_reducible refine Kd.C_drewN ?_ _) | (with_reducible refine Kd.C_drew ?_))); (case side2 => exact (Kd.R_reads' HO_7.out).2.1); rintro e w' ⟨rfl, ⟨nd, rfl⟩⟩; (try first | exact ⟨rfl, _, World.drewN_drewN _ _ _⟩ | exact ⟨rfl, _, Eq.trans (World.drewN_drewN _ _ _) (congrArg (World.drewN _) (Nat.add_assoc _ _ _))⟩)) | (go_at_call 16; (with_reducible refine (quoinlaw02_awake.calls A24.out).mono ?_); rintro e w27 ⟨rfl, hb⟩; replace HO_5 := Aside0.mk (Kd.R_below (kK HO_5) hb); replace HO_7 := Aside0.mk (Kd.R_below (kK HO_7) hb); replace HB := Aside0.mk (below_step zB hb); (try clear hb); (try clear hb2); (try clear hk); (try clear hi)))
         repeat (go_quiet (first | (go_at_call 39; (with_reducible refine (runes_Class.calls k2 _ _ t498 a1 t508 _ ?side1 ?side2 A21.out).mono ?_); (case side1 => repeat (first | exact (Kd.R_reads' HO_5.out).2.2 | (with_reducible refine Kd.C_alloc ?_ _) | (with_reducible refine Kd.C_drewN ?_ _) | (with_reducible refine Kd.C_drew ?_))); (case side2 => exact (Kd.R_reads' HO_5.out).2.1); rintro e w' ⟨rfl, ⟨nd, rfl⟩⟩; (try first | exact ⟨rfl, _, World.drewN_drewN _ _ _⟩ | exact ⟨rfl, _, Eq.trans (World.drewN_drewN _ _ _) (congrArg (World.drewN _) (Nat.add_assoc _ _ _))⟩); obtain ⟨Ao26, co26, eo26⟩ := Kd.R_slice HO_7.out; subst eo26) | (go_at_call 40; (with_reducible refine (quoinref02_Class.calls k2 _ _ t502 a1 t509 _ ?side1 ?side2 A22.out).mono ?_); (case side1 => repeat (first | exact (Kd.R_reads' HO_7.out).2.2 | (with_reducible refine Kd.C_alloc ?_ _) | (with_reducible refine Kd.C_drewN ?_ _) | (with_reducible refine Kd.C_drew ?_))); (case side2 => exact (Kd.R_reads' HO_7.out).2.1); rintro e w' ⟨rfl, ⟨nd, rfl⟩⟩; (try first | exact ⟨rfl, _, World.drewN_drewN _ _ _⟩ | exact ⟨rfl, _, Eq.trans (World.drewN_drewN _ _ _) (congrArg (World.drewN _) (Nat.add_assoc _ _ _))⟩)) | (go_at_call 16; (with_reducible refine (quoinlaw02_awake.calls A24.out).mono ?_); rintro e w27 ⟨rfl, hb⟩; replace HO_5 := Aside0.mk (Kd.R_below (kK HO_5) hb); replace HO_7 := Aside0.mk (Kd.R_below (kK HO_7) hb); replace HB := Aside0.mk (below_step zB hb); (try clear hb); (try clear hb2); (try clear hk); (try clear hi))); try go_wp2_with (first | (go_at_call 39; (with_reducible refine (runes_Class.calls k2 _ _ t498 a1 t508 _ ?side1 ?side2 A21.out).mono ?_); (case side1 => repeat (first | exact (Kd.R_reads' HO_5.out).2.2 | (with_reducible refine Kd.C_alloc ?_ _) | (with_reducible refine Kd.C_drewN ?_ _) | (with_reducible refine Kd.C_drew ?_))); (case side2 => exact (Kd.R_reads' HO_5.out).2.1); rintro e w' ⟨rfl, ⟨nd, rfl⟩⟩; (try first | exact ⟨rfl, _, World.drewN_drewN _ _ _⟩ | exact ⟨rfl, _, Eq.trans (World.drewN_drewN _ _ _) (congrArg (World.drewN _) (Nat.add_assoc _ _ _))⟩); obtain ⟨Ao26, co26, eo26⟩ := Kd.R_slice HO_7.out; subst eo26) | (go_at_call 40; (with_reducible refine (quoinref02_Class.calls k2 _ _ t502 a1 t509 _ ?side1 ?side2 A22.out).mono ?_); (case side1 => repeat (first | exact (Kd.R_reads' HO_7.out).2.2 | (with_reducible refine Kd.C_alloc ?_ _) | (with_reducible refine Kd.C_drewN ?_ _) | (with_reducible refine Kd.C_drew ?_))); (case side2 => exact (Kd.R_reads' HO_7.out).2.1); rintro e w' ⟨rfl, ⟨nd, rfl⟩⟩; (try first | exact ⟨rfl, _, World.drewN_drewN _ _ _⟩ | exact ⟨rfl, _, Eq.trans (World.drewN_drewN _ _ _) (congrArg (World.drewN _) (Nat.add_assoc _ _ _))⟩)) | (go_at_call 16; (with_reducible refine (quoinlaw02_awake.calls A24.out).mono ?_); rintro e w27 ⟨rfl, hb⟩; replace HO_5 := Aside0.mk (Kd.R_below (kK HO_5) hb); replace HO_7 := Aside0.mk (Kd.R_below (kK HO_7) hb); replace HB := Aside0.mk (below_step zB hb); (try clear hb); (try clear hb2); (try clear hk); (try clear hi))))
         go_ret
         exact ⟨Z4, Z0⟩
        ·rw [if_neg c23] at H
         have c23b0 := e3 c23
         have c23b1 := e4 c23
         obtain rfl := Option.some.inj H
         obtain ⟨Ao28, co28, eo28⟩ := Kd.R_slice HO_5.out
         subst eo28
         go_wp2_with (first | (go_at_call 39; (with_reducible refine (runes_Class.calls k2 _ _ t498 a1 t508 _ ?side1 ?side2 A21.out).mono ?_); (case side1 => repeat (first | exact (Kd.R_reads' HO_5.out).2.2 | (with_reducible refine Kd.C_alloc ?_ _) | (with_reducible refine Kd.C_drewN ?_ _) | (with_reducible refine Kd.C_drew ?_))); (case side2 => exact (Kd.R_reads' HO_5.out).2.1); rintro e w' ⟨rfl, ⟨nd, rfl⟩⟩; (try first | exact ⟨rfl, _, World.drewN_drewN _ _ _⟩ | exact ⟨rfl, _, Eq.trans (World.drewN_drewN _ _ _) (congrArg (World.drewN _) (Nat.add_assoc _ _ _))⟩); obtain ⟨Ao29, co29, eo29⟩ := Kd.R_slice HO_7.out; subst eo29) | (go_at_call 40; (with_reducible refine (quoinref02_Class.calls k2 _ _ t502 a1 t509 _ ?side1 ?side2 A22.out).mono ?_); (case side1 => repeat (first | exact (Kd.R_reads' HO_7.out).2.2 | (with_reducible refine Kd.C_alloc ?_ _) | (with_reducible refine Kd.C_drewN ?_ _) | (with_reducible refine Kd.C_drew ?_))); (case side2 => exact (Kd.R_reads' HO_7.out).2.1); rintro e w' ⟨rfl, ⟨nd, rfl⟩⟩; (try first | exact ⟨rfl, _, World.drewN_drewN _ _ _⟩ | exact ⟨rfl, _, Eq.trans (World.drewN_drewN _ _ _) (congrArg (World.drewN _) (Nat.add_assoc _ _ _))⟩)))
         repeat (go_quiet (first | (go_at_call 39; (with_reducible refine (runes_Class.calls k2 _ _ t498 a1 t508 _ ?side1 ?side2 A21.out).mono ?_); (case side1 => repeat (first | exact (Kd.R_reads' HO_5.out).2.2 | (with_reducible refine Kd.C_alloc ?_ _) | (with_reducible refine Kd.C_drewN ?_ _) | (with_reducible refine Kd.C_drew ?_))); (case side2 => exact (Kd.R_reads' HO_5.out).2.1); rintro e w' ⟨rfl, ⟨nd, rfl⟩⟩; (try first | exact ⟨rfl, _, World.drewN_drewN _ _ _⟩ | exact ⟨rfl, _, Eq.trans (World.drewN_drewN _ _ _) (congrArg (World.drewN _) (Nat.add_assoc _ _ _))⟩); obtain ⟨Ao29, co29, eo29⟩ := Kd.R_slice HO_7.out; subst eo29) | (go_at_call 40; (with_reducible refine (quoinref02_Class.calls k2 _ _ t502 a1 t509 _ ?side1 ?side2 A22.out).mono ?_); (case side1 => repeat (first | exact (Kd.R_reads' HO_7.out).2.2 | (with_reducible refine Kd.C_alloc ?_ _) | (with_reducible refine Kd.C_drewN ?_ _) | (with_reducible refine Kd.C_drew ?_))); (case side2 => exact (Kd.R_reads' HO_7.out).2.1); rintro e w' ⟨rfl, ⟨nd, rfl⟩⟩; (try first | exact ⟨rfl, _, World.drewN_drewN _ _ _⟩ | exact ⟨rfl, _, Eq.trans (World.drewN_drewN _ _ _) (congrArg (World.drewN _) (Nat.add_assoc _ _ _))⟩))); try go_wp2_with (first | (go_at_call 39; (with_reducible refine (runes_Class.calls k2 _ _ t498 a1 t508 _ ?side1 ?side2 A21.out).mono ?_); (case side1 => repeat (first | exact (Kd.R_reads' HO_5.out).2.2 | (with_reducible refine Kd.C_alloc ?_ _) | (with_reducible refine Kd.C_drewN ?_ _) | (with_reducible refine Kd.C_drew ?_))); (case side2 => exact (Kd.R_reads' HO_5.out).2.1); rintro e w' ⟨rfl, ⟨nd, rfl⟩⟩; (try first | exact ⟨rfl, _, World.drewN_drewN _ _ _⟩ | exact ⟨rfl, _, Eq.trans (World.drewN_drewN _ _ _) (congrArg (World.drewN _) (Nat.add_assoc _ _ _))⟩); obtain ⟨Ao29, co29, eo29⟩ := Kd.R_slice HO_7.out; subst eo29) | (go_at_call 40; (with_reducible refine (quoinref02_Class.calls k2 _ _ t502 a1 t509 _ ?side1 ?side2 A22.out).mono ?_); (case side1 => repeat (first | exact (Kd.R_reads' HO_7.out).2.2 | (with_reducible refine Kd.C_alloc ?_ _) | (with_reducible refine Kd.C_drewN ?_ _) | (with_reducible refine Kd.C_drew ?_))); (case side2 => exact (Kd.R_reads' HO_7.out).2.1); rintro e w' ⟨rfl, ⟨nd, rfl⟩⟩; (try first | exact ⟨rfl, _, World.drewN_drewN _ _ _⟩ | exact ⟨rfl, _, Eq.trans (World.drewN_drewN _ _ _) (congrArg (World.drewN _) (Nat.add_assoc _ _ _))⟩))))
         go_ret
         exact ⟨Z4, Z0⟩
       ·rw [if_neg c20] at H
        have c20b0 := e3 c20
        have c20b1 := e4 c20
        replace H := bS H
        obtain ⟨t511, A30, H⟩ := H
        try dsimp only at H
        obtain rfl := Option.some.inj H
        obtain ⟨Ao31, co31, eo31⟩ := Kd.R_slice HO_5.out
        subst eo31
        go_wp2_with (first | (go_at_call 16; (with_reducible refine (quoinlaw02_awake.calls A30.out).mono ?_); rintro e w32 ⟨rfl, hb⟩; replace HO_5 := Aside0.mk (Kd.R_below (kK HO_5) hb); replace HO_7 := Aside0.mk (Kd.R_below (kK HO_7) hb); replace HB := Aside0.mk (below_step zB hb); (try clear hb); (try clear hb2); (try clear hk); (try clear hi)))
        repeat (go_quiet (first | (go_at_call 16; (with_reducible refine (quoinlaw02_awake.calls A30.out).mono ?_); rintro e w32 ⟨rfl, hb⟩; replace HO_5 := Aside0.mk (Kd.R_below (kK HO_5) hb); replace HO_7 := Aside0.mk (Kd.R_below (kK HO_7) hb); replace HB := Aside0.mk (below_step zB hb); (try clear hb); (try clear hb2); (try clear hk); (try clear hi))); try go_wp2_with (first | (go_at_call 16; (with_reducible refine (quoinlaw02_awake.calls A30.out).mono ?_); rintro e w32 ⟨rfl, hb⟩; replace HO_5 := Aside0.mk (Kd.R_below (kK HO_5) hb); replace HO_7 := Aside0.mk (Kd.R_below (kK HO_7) hb); replace HB := Aside0.mk (below_step zB hb); (try clear hb); (try clear hb2); (try clear hk); (try clear hi))))
        go_ret
        exact ⟨Z4, Z0⟩
def quoinlaw02_RunesCuts.Pure : Prop := ∀ (l0 : List (List (S36))) (a1 : Int), l0.length ≤ 9223372036854775807 → l0.length * 24 ≤ 140737488351232 → (∀ x ∈ l0, x.length ≤ 9223372036854775807 ∧ ∀ y1 ∈ x, (Lit.int .i32 y1.f0).wf = true ∧ (Lit.int .i32 y1.f1).wf = true) → (Lit.int .i32 a1).wf = true → ∃ k, quoinlaw02_RunesCuts.f k l0 a1 = some true
theorem quoinlaw02_RunesCuts.walk (P : quoinlaw02_RunesCuts.Pure) (A0 : Option Addr) (c0 : Nat) (l0 : List (List (S36))) (a1 : Int) (w : World) (hr0 : Kd.C (Kd.slice 36 k36) w A0 l0.length l0) (hc0 : l0.length ≤ c0) (w0_0 : l0.length ≤ 9223372036854775807) (w0_1 : l0.length * 24 ≤ 140737488351232) (w0_2 : (∀ x ∈ l0, x.length ≤ 9223372036854775807 ∧ ∀ y1 ∈ x, (Lit.int .i32 y1.f0).wf = true ∧ (Lit.int .i32 y1.f1).wf = true)) (w1_0 : (Lit.int .i32 a1).wf = true) :
  Calls Tryd.prog 10 #[.slice A0 l0.length c0, .int .i32 a1] w fun e w' => e = .returned (.bool true) ∧ Below w.heap.size w w' := by
 obtain ⟨k, h⟩ := P l0 a1 w0_0 w0_1 w0_2 w1_0
 refine (quoinlaw02_RunesCuts.calls k _ _ l0 a1 true w hr0 hc0 h).mono ?_
 rintro e w' ⟨rfl, hd⟩
 exact ⟨rfl, hd⟩
def quoinlaw02_RunesCuts.PureU : Prop := ∀ (l0 : List (List (S36))) (a1 : Int), l0.length ≤ 9223372036854775807 → l0.length * 24 ≤ 140737488351232 → (∀ x ∈ l0, x.length ≤ 9223372036854775807 ∧ ∀ y1 ∈ x, (Lit.int .i32 y1.f0).wf = true ∧ (Lit.int .i32 y1.f1).wf = true) → (Lit.int .i32 a1).wf = true → (l0.map (fun z1 => ((z1.map (fun _ => (1 + 1 + 1))).sum + 1))).sum + 1 ≤ 1048576 → ∃ k, quoinlaw02_RunesCuts.f k l0 a1 = some true
theorem quoinlaw02_RunesCuts.walkU (P : quoinlaw02_RunesCuts.PureU) (A0 : Option Addr) (c0 : Nat) (l0 : List (List (S36))) (a1 : Int) (w : World) (hr0 : Kd.C (Kd.slice 36 k36) w A0 l0.length l0) (hc0 : l0.length ≤ c0) (w0_0 : l0.length ≤ 9223372036854775807) (w0_1 : l0.length * 24 ≤ 140737488351232) (w0_2 : (∀ x ∈ l0, x.length ≤ 9223372036854775807 ∧ ∀ y1 ∈ x, (Lit.int .i32 y1.f0).wf = true ∧ (Lit.int .i32 y1.f1).wf = true)) (w1_0 : (Lit.int .i32 a1).wf = true) (ub0 : (l0.map (fun z1 => ((z1.map (fun _ => (1 + 1 + 1))).sum + 1))).sum + 1 ≤ 1048576) :
  Calls Tryd.prog 10 #[.slice A0 l0.length c0, .int .i32 a1] w fun e w' => e = .returned (.bool true) ∧ Below w.heap.size w w' := by
 obtain ⟨k, h⟩ := P l0 a1 w0_0 w0_1 w0_2 w1_0 ub0
 refine (quoinlaw02_RunesCuts.calls k _ _ l0 a1 true w hr0 hc0 h).mono ?_
 rintro e w' ⟨rfl, hd⟩
 exact ⟨rfl, hd⟩
end Go.Proofs.YtfnkboilepgmoaaDoor.R
