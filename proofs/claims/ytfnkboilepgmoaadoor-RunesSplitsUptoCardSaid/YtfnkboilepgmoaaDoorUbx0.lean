import Derived.Test.YtfnkboilepgmoaaDoorUPre
import Derived.Test.YtfnkboilepgmoaaDoorUabx1
import Derived.Test.YtfnkboilepgmoaaDoorUabx2
namespace Go.Proofs.YtfnkboilepgmoaaDoor.R
open Go.RowKit Go.Proofs.YtfnkboilepgmoaaDoorW.PrintWords Go.Proofs.YtfnkboilepgmoaaDoorW.PrintLast Go.Proofs.YtfnkboilepgmoaaDoorW.PrintMore
attribute [local go_sem] max2_int min2_int max_two min_two max_three min_three max_four min_four
set_option linter.unusedVariables false
set_option linter.unusedSimpArgs false
mutual
def quoinlaw02_RunesSplits.j0 : Nat → List (List (S36)) → Int → Int → List Int → Int → Bool → Option (Bool)
 | 0, _, _, _, _, _, _ => none
 | k + 1, x0, x1, x2, x7, x8, x36 => if x36 = true then (if x8 = 0 then ((quoinlaw02_awake.f k).bind fun t516 => (some t516)) else (if (x7.length : Int) = 0 then ((quoinlaw02_awake.f k).bind fun t517 => (some t517)) else (some false))) else (quoinlaw02_RunesSplits.l0 k x0 x1 x2 x7 true 0)
def quoinlaw02_RunesSplits.l0 : Nat → List (List (S36)) → Int → Int → List Int → Bool → Int → Option (Bool)
 | 0, _, _, _, _, _, _ => none
 | k + 1, x0, x1, x2, x7, x9, x10 => if x10 < (x0.length : Int) then (if 0 ≤ x10 then ((runes_Has.f k (rd_L2 x0 x10) x1).bind fun t519 => ((runes_Has.f k (rd_L2 x0 x10) x2).bind fun t521 => (if (t519 != t521) = true then (quoinlaw02_RunesSplits.l0 k x0 x1 x2 x7 false (wrap64 (x10 + 1))) else (quoinlaw02_RunesSplits.l0 k x0 x1 x2 x7 x9 (wrap64 (x10 + 1)))))) else (none)) else ((runes_Class.f k x7 x1).bind fun t522 => ((runes_Class.f k x7 x2).bind fun t523 => (if t522 = t523 then (quoinlaw02_RunesSplits.j2 k x0 x7 (!x9)) else (quoinlaw02_RunesSplits.j2 k x0 x7 false))))
def quoinlaw02_RunesSplits.j2 : Nat → List (List (S36)) → List Int → Bool → Option (Bool)
 | 0, _, _, _ => none
 | k + 1, x0, x7, x76 => if x76 = true then (some false) else (quoinlaw02_RunesSplits.l1 k x0 x7 1)
def quoinlaw02_RunesSplits.l1 : Nat → List (List (S36)) → List Int → Int → Option (Bool)
 | 0, _, _, _ => none
 | k + 1, x0, x7, x11 => if x11 < (x7.length : Int) then (quoinlaw02_RunesSplits.l2 k x0 x7 x11 false 0) else (if (x7.length : Int) ≥ 1 then (if 0 < (x7.length : Int) then (if (rd x7 0) = 0 then ((quoinlaw02_awake.f k).bind fun t525 => (some t525)) else (some false)) else (none)) else (some false))
def quoinlaw02_RunesSplits.l2 : Nat → List (List (S36)) → List Int → Int → Bool → Int → Option (Bool)
 | 0, _, _, _, _, _ => none
 | k + 1, x0, x7, x11, x12, x13 => if x13 < (x0.length : Int) then (if 0 ≤ x13 then (if 0 ≤ x11 then (if x11 < (x7.length : Int) then ((runes_Has.f k (rd_L2 x0 x13) (wrap32 ((rd x7 x11) - 1))).bind fun t530 => ((runes_Has.f k (rd_L2 x0 x13) (rd x7 x11)).bind fun t533 => (if (t530 != t533) = true then (quoinlaw02_RunesSplits.l2 k x0 x7 x11 true (wrap64 (x13 + 1))) else (quoinlaw02_RunesSplits.l2 k x0 x7 x11 x12 (wrap64 (x13 + 1)))))) else (none)) else (none)) else (none)) else (if x12 = true then (if 0 ≤ x11 then (if x11 < (x7.length : Int) then (if 0 ≤ (wrap64 (x11 - 1)) then (if (wrap64 (x11 - 1)) < (x7.length : Int) then (if (rd x7 x11) ≤ (rd x7 (wrap64 (x11 - 1))) then (some false) else (quoinlaw02_RunesSplits.l1 k x0 x7 (wrap64 (x11 + 1)))) else (none)) else (none)) else (none)) else (none)) else (some false))
end
def quoinlaw02_RunesSplits.f (k : Nat) (l0 : List (List (S36))) (a1 : Int) (a2 : Int) : Option (Bool) := (runes_Cuts.f k l0).bind fun bt512 => (if bt512.2 = 0 then (if a1 < 0 then (quoinlaw02_RunesSplits.j0 k l0 a1 a2 bt512.1 bt512.2 true) else (if a2 < 0 then (quoinlaw02_RunesSplits.j0 k l0 a1 a2 bt512.1 bt512.2 true) else (if a1 > 1114111 then (quoinlaw02_RunesSplits.j0 k l0 a1 a2 bt512.1 bt512.2 true) else (quoinlaw02_RunesSplits.j0 k l0 a1 a2 bt512.1 bt512.2 (decide (a2 > 1114111)))))) else (quoinlaw02_RunesSplits.j0 k l0 a1 a2 bt512.1 bt512.2 true))
def quoinlaw02_RunesSplits.T8 : Bool × List (List Nat × List Nat) := (true, [([], []), ([], []), ([0, 1], [0, 1]), ([2], [2]), ([], []), ([3, 4], [3, 4]), ([], []), ([], []), ([6, 7], [6, 7]), ([8], [8]), ([], []), ([9, 10, 5], [9, 10]), ([5, 11], [5, 11])])
def quoinlaw02_RunesSplits.B8 : List Nat := [0, 0, 3, 7, 0, 31, 0, 0, 192, 448, 0, 2047, 4095]
theorem quoinlaw02_RunesSplits.tab8 : rtab .any (opsOf Tryd.f11 8) = quoinlaw02_RunesSplits.T8 := by kernel_rfl
theorem quoinlaw02_RunesSplits.bits8 : waitsOk quoinlaw02_RunesSplits.T8.2 quoinlaw02_RunesSplits.B8 = true := by kernel_rfl
def quoinlaw02_RunesSplits.T19 : Bool × List (List Nat × List Nat) := (true, [([], []), ([], []), ([0, 1], [0, 1]), ([2], [2]), ([], []), ([], []), ([4, 5], [4, 5]), ([6], [6]), ([7], [7]), ([3, 8], [3, 8]), ([], []), ([], []), ([10, 11], [10, 11]), ([12], [12]), ([], []), ([], []), ([14, 15], [14, 15]), ([16], [16]), ([13, 17, 9], [13, 17]), ([9, 18], [9, 18])])
def quoinlaw02_RunesSplits.B19 : List Nat := [0, 0, 3, 7, 0, 0, 48, 112, 240, 511, 0, 0, 3072, 7168, 0, 0, 49152, 114688, 262143, 524287]
theorem quoinlaw02_RunesSplits.tab19 : rtab .any (opsOf Tryd.f11 19) = quoinlaw02_RunesSplits.T19 := by kernel_rfl
theorem quoinlaw02_RunesSplits.bits19 : waitsOk quoinlaw02_RunesSplits.T19.2 quoinlaw02_RunesSplits.B19 = true := by kernel_rfl
def quoinlaw02_RunesSplits.T21 : Bool × List (List Nat × List Nat) := (true, [([], []), ([0], [0]), ([1], [1]), ([2], [2]), ([2], [2]), ([3, 4, 2], [2, 3, 4]), ([5, 2], [2, 5]), ([2], [2]), ([2], [2]), ([8, 2], [2, 8]), ([7, 9, 2], [2, 7, 9]), ([10, 2], [2, 10]), ([6, 11, 2], [2, 6, 11]), ([2, 12], [2, 12])])
def quoinlaw02_RunesSplits.B21 : List Nat := [0, 1, 3, 7, 7, 31, 63, 7, 7, 263, 903, 1927, 4095, 8191]
theorem quoinlaw02_RunesSplits.tab21 : rtab .any (opsOf Tryd.f11 21) = quoinlaw02_RunesSplits.T21 := by kernel_rfl
theorem quoinlaw02_RunesSplits.bits21 : waitsOk quoinlaw02_RunesSplits.T21.2 quoinlaw02_RunesSplits.B21 = true := by kernel_rfl
set_option maxHeartbeats 8000000 in
set_option maxRecDepth 100000 in
theorem quoinlaw02_RunesSplits.calls (k : Nat) (A0 : Option Addr) (c0 : Nat) (l0 : List (List (S36))) (a1 : Int) (a2 : Int) (r : Bool) (w : World) (hr0 : Kd.C (Kd.slice 36 k36) w A0 l0.length l0) (hc0 : l0.length ≤ c0) (h : quoinlaw02_RunesSplits.f k l0 a1 a2 = some r) :
  Calls Tryd.prog 11 #[.slice A0 l0.length c0, .int .i32 a1, .int .i32 a2] w fun e w' => e = .returned (.bool r) ∧ Below w.heap.size w w' := by
 have HR0 := Aside0.mk hr0
 have HC0 := Aside0.mk hc0
 clear hr0 hc0
 have HB := Aside0.mk (Below.refl w.heap.size w)
 have H : ((runes_Cuts.f k l0).bind fun bt512 => (if bt512.2 = 0 then (if a1 < 0 then (quoinlaw02_RunesSplits.j0 k l0 a1 a2 bt512.1 bt512.2 true) else (if a2 < 0 then (quoinlaw02_RunesSplits.j0 k l0 a1 a2 bt512.1 bt512.2 true) else (if a1 > 1114111 then (quoinlaw02_RunesSplits.j0 k l0 a1 a2 bt512.1 bt512.2 true) else (quoinlaw02_RunesSplits.j0 k l0 a1 a2 bt512.1 bt512.2 (decide (a2 > 1114111)))))) else (quoinlaw02_RunesSplits.j0 k l0 a1 a2 bt512.1 bt512.2 true))) = some r := h
 clear h
 replace H := bS H
 obtain ⟨⟨t512, t513⟩, A4, H⟩ := H
 try dsimp only at H
 have HC5 := Aside0.mk H
 clear H
 go_enter Tryd.func11, Tryd.ntmps11
 go_upto_region 2 with (first | ((with_reducible refine gC 37 rfl ?_); refine goesL_ (some 16) rfl rfl Tryd.func37 Z5 rfl #[.slice A0 l0.length c0] rfl Z3 ?_; (with_reducible refine (runes_Cuts.calls k _ _ l0 t512 t513 _ ?side1 ?side2 A4.out).mono ?_); (case side1 => repeat (first | exact HR0.out | (with_reducible refine Kd.C_alloc ?_ _) | (with_reducible refine Kd.C_drewN ?_ _) | (with_reducible refine Kd.C_drew ?_))); (case side2 => exact HC0.out); rintro e w6 ⟨v514, rfl, ho0, hb⟩; refine ⟨_, rfl, ?_⟩; have HO515 := Aside0.mk (Kd.R_lower ho0 (below_size zB)); replace HB := Aside0.mk (below_step zB hb); (try clear hb); (try clear hb2); (try clear hk); (try clear hi); (try clear ho0)))
 (try simp only [Act.put, List.setIfInBounds_toArray, List.set_cons_zero, List.set_cons_succ])
 go_cut [36] (fun v36 wc => ∃ (kq : Nat) (x36_4 : Bool), v36 = .bool x36_4 ∧ Aside0 (quoinlaw02_RunesSplits.j0 kq l0 a1 a2 t512 t513 x36_4 = some r) ∧ Aside0 (kq ≤ k) ∧ Aside0 (Kd.R (Kd.int .i32) 21 wc w.heap.size (fun _ => True) v514 t512) ∧ Aside0 (Below w.heap.size w wc))
 case first => as_aux_lemma =>
  have H := HC5.out
  clear HC5
  by_cases c7 : t513 = 0
  ·rw [if_pos c7] at H
   have c7b0 := e1 c7
   have c7b1 := e2 c7
   clear c7
   (first | rw [c7b0] | (simp only [i64_w, i32_w]; rw [c7b0]) | skip)
   by_cases c8 : a1 < 0
   ·rw [if_pos c8] at H
    have c8b0 := decide_eq_true c8
    clear c8
    have H' := Aside0.mk H
    clear H
    go_wp2
    go_meet
    case rel => exact ⟨_, (true), Z2, H', ⟨by first | omega | exact Nat.le_refl _⟩, ⟨Z16⟩, ⟨Z0⟩⟩
   ·rw [if_neg c8] at H
    have c8b0 := decide_eq_false c8
    clear c8
    by_cases c9 : a2 < 0
    ·rw [if_pos c9] at H
     have c9b0 := decide_eq_true c9
     clear c9
     have H' := Aside0.mk H
     clear H
     go_wp2
     go_meet
     case rel => exact ⟨_, (true), Z2, H', ⟨by first | omega | exact Nat.le_refl _⟩, ⟨Z16⟩, ⟨Z0⟩⟩
    ·rw [if_neg c9] at H
     have c9b0 := decide_eq_false c9
     clear c9
     by_cases c10 : a1 > 1114111
     ·rw [if_pos c10] at H
      have c10b0 : decide (1114111 < a1) = true := decide_eq_true c10
      clear c10
      have H' := Aside0.mk H
      clear H
      go_wp2
      go_meet
      case rel => exact ⟨_, (true), Z2, H', ⟨by first | omega | exact Nat.le_refl _⟩, ⟨Z16⟩, ⟨Z0⟩⟩
     ·rw [if_neg c10] at H
      have c10b0 : decide (1114111 < a1) = false := decide_eq_false c10
      clear c10
      have H' := Aside0.mk H
      clear H
      go_wp2
      go_meet
      case rel => exact ⟨_, (decide (a2 > 1114111)), Z2, H', ⟨by first | omega | exact Nat.le_refl _⟩, ⟨Z16⟩, ⟨Z0⟩⟩
  ·rw [if_neg c7] at H
   have c7b0 := e3 c7
   have c7b1 := e4 c7
   (first | rw [c7b0] | (simp only [i64_w, i32_w]; rw [c7b0]) | skip)
   have H' := Aside0.mk H
   clear H
   go_wp2
   go_meet
   case rel => exact ⟨_, (true), Z2, H', ⟨by first | omega | exact Nat.le_refl _⟩, ⟨Z16⟩, ⟨Z0⟩⟩
 case rest => as_aux_lemma =>
  clear HC5
  try clear c1
  try clear p2
  try clear c3
  try clear c7
  try clear c7b0
  try clear c7b1
  try clear c8
  try clear c8b0
  try clear c9
  try clear c9b0
  try clear c10
  try clear c10b0
  obtain ⟨kq, x36_4, rfl, HA, HJ4, HO_7, HB⟩ := hcut
  cases kq with
  | zero => exact absurd HA.out (by simp [quoinlaw02_RunesSplits.j0])
  | succ kj4 =>
   have H := HA.out
   clear HA
   simp only [quoinlaw02_RunesSplits.j0] at H
   by_cases c11 : x36_4 = true
   ·subst c11
    have H1 : (if t513 = 0 then ((quoinlaw02_awake.f kj4).bind fun t516 => (some t516)) else (if (t512.length : Int) = 0 then ((quoinlaw02_awake.f kj4).bind fun t517 => (some t517)) else (some false))) = some r := by rw [if_pos rfl] at H; exact H
    clear H
    have H := H1
    clear H1
    by_cases c12 : t513 = 0
    ·rw [if_pos c12] at H
     have c12b0 := e1 c12
     have c12b1 := e2 c12
     clear c12
     replace H := bS H
     obtain ⟨t516, A13, H⟩ := H
     try dsimp only at H
     obtain rfl := Option.some.inj H
     go_wp2_with (first | (go_at_call 16; (with_reducible refine (quoinlaw02_awake.calls A13.out).mono ?_); rintro e w14 ⟨rfl, hb⟩; replace HO_7 := Aside0.mk (Kd.R_below (kK HO_7) hb); replace HB := Aside0.mk (below_step zB hb); (try clear hb); (try clear hb2); (try clear hk); (try clear hi)))
     go_ret
     exact ⟨Z4, Z0⟩
    ·rw [if_neg c12] at H
     have c12b0 := e3 c12
     have c12b1 := e4 c12
     by_cases c15 : (t512.length : Int) = 0
     ·rw [if_pos c15] at H
      have c15b0 := e1 c15
      have c15b1 := e2 c15
      clear c15
      replace H := bS H
      obtain ⟨t517, A16, H⟩ := H
      try dsimp only at H
      obtain rfl := Option.some.inj H
      obtain ⟨Ao17, co17, eo17⟩ := Kd.R_slice HO_7.out
      subst eo17
      go_wp2_with (first | (go_at_call 16; (with_reducible refine (quoinlaw02_awake.calls A16.out).mono ?_); rintro e w18 ⟨rfl, hb⟩; replace HO_7 := Aside0.mk (Kd.R_below (kK HO_7) hb); replace HB := Aside0.mk (below_step zB hb); (try clear hb); (try clear hb2); (try clear hk); (try clear hi)))
      go_ret
      exact ⟨Z4, Z0⟩
     ·rw [if_neg c15] at H
      have c15b0 := e3 c15
      have c15b1 := e4 c15
      have c15b2 : ¬ (t512 = []) := fun h_ => c15 (by rw [h_]; rfl)
      obtain rfl := Option.some.inj H
      obtain ⟨Ao19, co19, eo19⟩ := Kd.R_slice HO_7.out
      subst eo19
      go_wp2
      go_ret
      exact ⟨Z4, Z0⟩
   ·replace c11 := Bool.eq_false_iff.mpr c11
    subst c11
    have H1 : (quoinlaw02_RunesSplits.l0 kj4 l0 a1 a2 t512 true 0) = some r := by rw [if_neg (show ¬ (false = true) by decide)] at H; exact H
    clear H
    have H := H1
    clear H1
    have H' := Aside0.mk H
    clear H
    go_wp2
    go_loopg [9, 10] kj4 (fun kq v9 v10 w' => ∃ (x9_2 : Bool) (x10_2 : Int), v9 = .bool x9_2 ∧ v10 = .int .i64 x10_2 ∧ Aside0 (quoinlaw02_RunesSplits.l0 kq l0 a1 a2 t512 x9_2 x10_2 = some r) ∧ Aside0 (kq ≤ kj4) ∧ Aside0 (Kd.R (Kd.int .i32) 21 w' w.heap.size (fun _ => True) v514 t512) ∧ Aside0 (Below w.heap.size w w'))
    case atStart => exact ⟨(true), (0), Z2, Z2, H', ⟨Nat.le_refl _⟩, ⟨Z13⟩, ⟨Z0⟩⟩
    case round =>
     clear H'
     try clear c1
     try clear p2
     try clear c3
     try clear c7
     try clear c7b0
     try clear c7b1
     try clear c8
     try clear c8b0
     try clear c9
     try clear c9b0
     try clear c10
     try clear c10b0
     try clear c11
     try clear c12
     try clear c12b0
     try clear c12b1
     try clear c15
     try clear c15b0
     try clear c15b1
     try clear c15b2
     try clear p2
     obtain ⟨x9_2, x10_2, rfl, rfl, HA, HK2, HO_7, HB⟩ := hrel
     cases gk with
     | zero => exact absurd HA.out (by simp [quoinlaw02_RunesSplits.l0])
     | succ k2 =>
      have H := HA.out
      clear HA
      simp only [quoinlaw02_RunesSplits.l0] at H
      by_cases c20 : x10_2 < (l0.length : Int)
      ·rw [if_pos c20] at H
       have c20b0 := decide_eq_true c20
       clear c20
       by_cases c21 : 0 ≤ x10_2
       ·rw [if_pos c21] at H
        have c21b0 := decide_eq_true c21
        clear c21
        replace H := bS H
        obtain ⟨t519, A22, H⟩ := H
        try dsimp only at H
        replace H := bS H
        obtain ⟨t521, A23, H⟩ := H
        try dsimp only at H
        by_cases c24 : (t519 != t521) = true
        ·rw [if_pos c24] at H
         have c24b0 : (t519 != t521) = true := c24
         (try (have c24b1 : decide (t519 = t521) = false := by simpa using c24))
         (try (have c24b2 : (t519 == t521) = false := by simpa using c24))
         (try (have c24b3 : ¬ (t519 = t521) := by simpa using c24))
         clear c24
         have H' := Aside0.mk H
         clear H
         try go_wp2
         replace HO_7 := Aside0.mk (Kd.R_drew HO_7.out)
         replace HB := Aside0.mk (below_drew1 HB.out)
         have p518 : 0 ≤ (x10_2 : Int) := of_decide_eq_true Z1
         have q518 : x10_2 < (l0.length : Int) := of_decide_eq_true Z1
         obtain ⟨ad518, A518_0, c518_0, e518, hx518_0, hl518_0, hi518_0⟩ := at_L2 HR0.out x10_2 p518 q518
         have hw518_0 := hx518_0
         cases e518
         replace hx518_0 := (HB.out.cell (World.block_lt_of_cell? w _ hx518_0)).trans hx518_0
         have HR518_0 := Aside0.mk hi518_0
         have HC518_0 := Aside0.mk hl518_0
         clear hi518_0 hl518_0
         replace p518 := eq_true p518
         replace q518 := eq_true q518
         have p520 : 0 ≤ (x10_2 : Int) := of_decide_eq_true Z1
         have q520 : x10_2 < (l0.length : Int) := of_decide_eq_true Z1
         obtain ⟨ad520, A520_0, c520_0, e520, hx520_0, hl520_0, hi520_0⟩ := at_L2 HR0.out x10_2 p520 q520
         have hw520_0 := hx520_0
         obtain rfl : ad518 = ad520 := (by injection e520)
         replace hx520_0 := (HB.out.cell (World.block_lt_of_cell? w _ hx520_0)).trans hx520_0
         have HR520_0 := Aside0.mk hi520_0
         have HC520_0 := Aside0.mk hl520_0
         clear hi520_0 hl520_0
         replace p520 := eq_true p520
         replace q520 := eq_true q520
         have ea_ := Option.some.inj (hx518_0.symm.trans hx520_0)
         injection ea_ with ea_ en_ ec_
         subst ea_
         subst ec_
         clear en_
         refine start_ (n := 13) (S := fun w' => w'.cell? (ad518.add (x10_2).toNat) = some (.slice A518_0 (rd_L2 l0 x10_2).length c518_0) ∧ w'.cell? (ad518.add (x10_2).toNat) = some (.slice A518_0 (rd_L2 l0 x10_2).length c518_0)) (ds := []) #[false, false, false, false, false, false, false, false, false, false, false, false, false] Z5 rfl rfl ⟨((HB.out.cell (World.block_lt_of_cell? w _ hw518_0)).trans hw518_0), ((HB.out.cell (World.block_lt_of_cell? w _ hw520_0)).trans hw520_0)⟩ (fun hHeld => ?_); refine with_tabW quoinlaw02_RunesSplits.tab8 quoinlaw02_RunesSplits.bits8 (fun HT_ HW_ => ?_)
         generalize wr.drew = w25 at HO_7 HB HR518_0 HR520_0 hx518_0 hx520_0 hHeld ⊢
         refine pU 0 53 (hc := (any_of HT_.out Z5)) (h := ?_)
         refine pU 1 54 (hc := (any_of HT_.out Z5)) (h := ?_)
         refine pU 2 55 (hc := (any_of HT_.out Z5)) (h := ?_)
         refine pU 4 57 (hc := (any_of HT_.out Z5)) (h := ?_)
         refine pU 6 59 (hc := (any_of HT_.out Z5)) (h := ?_)
         refine pU 7 60 (hc := (any_of HT_.out Z5)) (h := ?_)
         refine pU 8 61 (hc := (any_of HT_.out Z5)) (h := ?_)
         refine pU 10 63 (hc := (any_of HT_.out Z5)) (h := ?_)
         refine take_ (i := 3) (N := some 56) (v := ?_) (a' := ?_) #[true, true, true, true, true, false, true, true, true, false, true, false, false] rfl rfl (take_ofW HT_.out HW_.out Z5) (fun _ _ _ h => h) (Or.inl ⟨by rfl, ?_⟩) hHeld ?_ ?_
         rotate_left
         ·rintro w' ⟨s0, s1⟩
          go_simp
          with_reducible rfl
         rotate_left
         ·simp only [Act.put, List.setIfInBounds_toArray, List.set_cons_zero, List.set_cons_succ, i64_w, i32_w]
          rfl
         refine take_ (i := 9) (N := some 62) (v := ?_) (a' := ?_) #[true, true, true, true, true, false, true, true, true, true, true, false, false] rfl rfl (take_ofW HT_.out HW_.out Z5) (fun _ _ _ h => h) (Or.inl ⟨by rfl, ?_⟩) hHeld ?_ ?_
         rotate_left
         ·rintro w' ⟨s0, s1⟩
          go_simp
          with_reducible rfl
         rotate_left
         ·simp only [Act.put, List.setIfInBounds_toArray, List.set_cons_zero, List.set_cons_succ, i64_w, i32_w]
          rfl
         refine oN 5 (some 58) (hc := (one_of HT_.out Z5)) (h := fun K hK => ?_)
         refine goes_ Tryd.func33 Z5 rfl #[.slice A518_0 (rd_L2 l0 x10_2).length c518_0, .int .i32 a1] (by rfl) rfl rfl Z3 ?_
         with_reducible refine (runes_Has.calls k2 _ _ (rd_L2 l0 x10_2) a1 t519 _ ?side1 ?side2 A22.out).mono ?_
         (case side1 => repeat (first | exact (Kd.C_below HR518_0.out HB.out) | (with_reducible refine Kd.C_alloc ?_ _) | (with_reducible refine Kd.C_drewN ?_ _) | (with_reducible refine Kd.C_drew ?_)))
         (case side2 => exact HC518_0.out)
         rintro e w26 ⟨rfl, hb⟩
         refine ⟨_, rfl, ?_⟩
         replace HO_7 := Aside0.mk (Kd.R_below (kK HO_7) hb)
         replace HB := Aside0.mk (below_step zB hb)
         (try clear hb)
         (try clear hb2)
         (try clear hk)
         (try clear hi)
         refine hK.out _ _ ⟨((HB.out.cell (World.block_lt_of_cell? w _ hw518_0)).trans hw518_0), ((HB.out.cell (World.block_lt_of_cell? w _ hw520_0)).trans hw520_0)⟩ (fun hHeld => ?_)
         clear hK K
         refine nO 58 (h := ?_)
         refine oN 11 (some 64) (hc := (one_of HT_.out Z5)) (h := fun K hK => ?_)
         refine goes_ Tryd.func33 Z5 rfl #[.slice A518_0 (rd_L2 l0 x10_2).length c518_0, .int .i32 a2] (by rfl) rfl rfl Z3 ?_
         with_reducible refine (runes_Has.calls k2 _ _ (rd_L2 l0 x10_2) a2 t521 _ ?side1 ?side2 A23.out).mono ?_
         (case side1 => repeat (first | exact (Kd.C_below HR520_0.out HB.out) | (with_reducible refine Kd.C_alloc ?_ _) | (with_reducible refine Kd.C_drewN ?_ _) | (with_reducible refine Kd.C_drew ?_)))
         (case side2 => exact HC520_0.out)
         rintro e w27 ⟨rfl, hb⟩
         refine ⟨_, rfl, ?_⟩
         replace HO_7 := Aside0.mk (Kd.R_below (kK HO_7) hb)
         replace HB := Aside0.mk (below_step zB hb)
         (try clear hb)
         (try clear hb2)
         (try clear hk)
         (try clear hi)
         refine hK.out _ _ ⟨((HB.out.cell (World.block_lt_of_cell? w _ hw518_0)).trans hw518_0), ((HB.out.cell (World.block_lt_of_cell? w _ hw520_0)).trans hw520_0)⟩ (fun hHeld => ?_)
         clear hK K
         refine nO 64 (h := ?_)
         refine pU 12 65 (hc := (any_of HT_.out Z5)) (h := ?_)
         refine done_ (done_of HT_.out Z5) ?_
         try go_wp2
         go_roundg k2
         case measure => have := HJ4.out; have := HK2.out; omega
         case rel => exact ⟨(false), (wrap64 (x10_2 + 1)), Z2, Z2, H', ⟨by have := HJ4.out; have := HK2.out; omega⟩, ⟨Z13⟩, ⟨Z0⟩⟩
        ·rw [if_neg c24] at H
         have c24b0 : (t519 != t521) = false := by simpa using c24
         (try (have c24b1 : decide (t519 = t521) = true := by simpa using c24))
         (try (have c24b2 : (t519 == t521) = true := by simpa using c24))
         clear c24
         have H' := Aside0.mk H
         clear H
         try go_wp2
         replace HO_7 := Aside0.mk (Kd.R_drew HO_7.out)
         replace HB := Aside0.mk (below_drew1 HB.out)
         have p518 : 0 ≤ (x10_2 : Int) := of_decide_eq_true Z1
         have q518 : x10_2 < (l0.length : Int) := of_decide_eq_true Z1
         obtain ⟨ad518, A518_0, c518_0, e518, hx518_0, hl518_0, hi518_0⟩ := at_L2 HR0.out x10_2 p518 q518
         have hw518_0 := hx518_0
         cases e518
         replace hx518_0 := (HB.out.cell (World.block_lt_of_cell? w _ hx518_0)).trans hx518_0
         have HR518_0 := Aside0.mk hi518_0
         have HC518_0 := Aside0.mk hl518_0
         clear hi518_0 hl518_0
         replace p518 := eq_true p518
         replace q518 := eq_true q518
         have p520 : 0 ≤ (x10_2 : Int) := of_decide_eq_true Z1
         have q520 : x10_2 < (l0.length : Int) := of_decide_eq_true Z1
         obtain ⟨ad520, A520_0, c520_0, e520, hx520_0, hl520_0, hi520_0⟩ := at_L2 HR0.out x10_2 p520 q520
         have hw520_0 := hx520_0
         obtain rfl : ad518 = ad520 := (by injection e520)
         replace hx520_0 := (HB.out.cell (World.block_lt_of_cell? w _ hx520_0)).trans hx520_0
         have HR520_0 := Aside0.mk hi520_0
         have HC520_0 := Aside0.mk hl520_0
         clear hi520_0 hl520_0
         replace p520 := eq_true p520
         replace q520 := eq_true q520
         have ea_ := Option.some.inj (hx518_0.symm.trans hx520_0)
         injection ea_ with ea_ en_ ec_
         subst ea_
         subst ec_
         clear en_
         refine start_ (n := 13) (S := fun w' => w'.cell? (ad518.add (x10_2).toNat) = some (.slice A518_0 (rd_L2 l0 x10_2).length c518_0) ∧ w'.cell? (ad518.add (x10_2).toNat) = some (.slice A518_0 (rd_L2 l0 x10_2).length c518_0)) (ds := []) #[false, false, false, false, false, false, false, false, false, false, false, false, false] Z5 rfl rfl ⟨((HB.out.cell (World.block_lt_of_cell? w _ hw518_0)).trans hw518_0), ((HB.out.cell (World.block_lt_of_cell? w _ hw520_0)).trans hw520_0)⟩ (fun hHeld => ?_); refine with_tabW quoinlaw02_RunesSplits.tab8 quoinlaw02_RunesSplits.bits8 (fun HT_ HW_ => ?_)
         generalize wr.drew = w28 at HO_7 HB HR518_0 HR520_0 hx518_0 hx520_0 hHeld ⊢
         refine pU 0 53 (hc := (any_of HT_.out Z5)) (h := ?_)
         refine pU 1 54 (hc := (any_of HT_.out Z5)) (h := ?_)
         refine pU 2 55 (hc := (any_of HT_.out Z5)) (h := ?_)
         refine pU 4 57 (hc := (any_of HT_.out Z5)) (h := ?_)
         refine pU 6 59 (hc := (any_of HT_.out Z5)) (h := ?_)
         refine pU 7 60 (hc := (any_of HT_.out Z5)) (h := ?_)
         refine pU 8 61 (hc := (any_of HT_.out Z5)) (h := ?_)
         refine pU 10 63 (hc := (any_of HT_.out Z5)) (h := ?_)
         refine take_ (i := 3) (N := some 56) (v := ?_) (a' := ?_) #[true, true, true, true, true, false, true, true, true, false, true, false, false] rfl rfl (take_ofW HT_.out HW_.out Z5) (fun _ _ _ h => h) (Or.inl ⟨by rfl, ?_⟩) hHeld ?_ ?_
         rotate_left
         ·rintro w' ⟨s0, s1⟩
          go_simp
          with_reducible rfl
         rotate_left
         ·simp only [Act.put, List.setIfInBounds_toArray, List.set_cons_zero, List.set_cons_succ, i64_w, i32_w]
          rfl
         refine take_ (i := 9) (N := some 62) (v := ?_) (a' := ?_) #[true, true, true, true, true, false, true, true, true, true, true, false, false] rfl rfl (take_ofW HT_.out HW_.out Z5) (fun _ _ _ h => h) (Or.inl ⟨by rfl, ?_⟩) hHeld ?_ ?_
         rotate_left
         ·rintro w' ⟨s0, s1⟩
          go_simp
          with_reducible rfl
         rotate_left
         ·simp only [Act.put, List.setIfInBounds_toArray, List.set_cons_zero, List.set_cons_succ, i64_w, i32_w]
          rfl
         refine oN 5 (some 58) (hc := (one_of HT_.out Z5)) (h := fun K hK => ?_)
         refine goes_ Tryd.func33 Z5 rfl #[.slice A518_0 (rd_L2 l0 x10_2).length c518_0, .int .i32 a1] (by rfl) rfl rfl Z3 ?_
         with_reducible refine (runes_Has.calls k2 _ _ (rd_L2 l0 x10_2) a1 t519 _ ?side1 ?side2 A22.out).mono ?_
         (case side1 => repeat (first | exact (Kd.C_below HR518_0.out HB.out) | (with_reducible refine Kd.C_alloc ?_ _) | (with_reducible refine Kd.C_drewN ?_ _) | (with_reducible refine Kd.C_drew ?_)))
         (case side2 => exact HC518_0.out)
         rintro e w29 ⟨rfl, hb⟩
         refine ⟨_, rfl, ?_⟩
         replace HO_7 := Aside0.mk (Kd.R_below (kK HO_7) hb)
         replace HB := Aside0.mk (below_step zB hb)
         (try clear hb)
         (try clear hb2)
         (try clear hk)
         (try clear hi)
         refine hK.out _ _ ⟨((HB.out.cell (World.block_lt_of_cell? w _ hw518_0)).trans hw518_0), ((HB.out.cell (World.block_lt_of_cell? w _ hw520_0)).trans hw520_0)⟩ (fun hHeld => ?_)
         clear hK K
         refine nO 58 (h := ?_)
         refine oN 11 (some 64) (hc := (one_of HT_.out Z5)) (h := fun K hK => ?_)
         refine goes_ Tryd.func33 Z5 rfl #[.slice A518_0 (rd_L2 l0 x10_2).length c518_0, .int .i32 a2] (by rfl) rfl rfl Z3 ?_
         with_reducible refine (runes_Has.calls k2 _ _ (rd_L2 l0 x10_2) a2 t521 _ ?side1 ?side2 A23.out).mono ?_
         (case side1 => repeat (first | exact (Kd.C_below HR520_0.out HB.out) | (with_reducible refine Kd.C_alloc ?_ _) | (with_reducible refine Kd.C_drewN ?_ _) | (with_reducible refine Kd.C_drew ?_)))
         (case side2 => exact HC520_0.out)
         rintro e w30 ⟨rfl, hb⟩
         refine ⟨_, rfl, ?_⟩
         replace HO_7 := Aside0.mk (Kd.R_below (kK HO_7) hb)
         replace HB := Aside0.mk (below_step zB hb)
         (try clear hb)
         (try clear hb2)
         (try clear hk)
         (try clear hi)
         refine hK.out _ _ ⟨((HB.out.cell (World.block_lt_of_cell? w _ hw518_0)).trans hw518_0), ((HB.out.cell (World.block_lt_of_cell? w _ hw520_0)).trans hw520_0)⟩ (fun hHeld => ?_)
         clear hK K
         refine nO 64 (h := ?_)
         refine pU 12 65 (hc := (any_of HT_.out Z5)) (h := ?_)
         refine done_ (done_of HT_.out Z5) ?_
         try go_wp2
         go_roundg k2
         case measure => have := HJ4.out; have := HK2.out; omega
         case rel => exact ⟨(x9_2), (wrap64 (x10_2 + 1)), Z2, Z2, H', ⟨by have := HJ4.out; have := HK2.out; omega⟩, ⟨Z13⟩, ⟨Z0⟩⟩
       ·rw [if_neg c21] at H
        exact absurd H Z19
      ·rw [if_neg c20] at H
       have c20b0 := decide_eq_false c20
       clear c20
       have HC31 := Aside0.mk H
       clear H
       go_upto_region 10 with (fail)
       go_cut [76] (fun v76 wc => ∃ (kq : Nat) (x76_30 : Bool), v76 = .bool x76_30 ∧ Aside0 (quoinlaw02_RunesSplits.j2 kq l0 t512 x76_30 = some r) ∧ Aside0 (kq ≤ k2) ∧ Aside0 (Kd.R (Kd.int .i32) 21 wc w.heap.size (fun _ => True) v514 t512) ∧ Aside0 (Below w.heap.size w wc))
       case first => as_aux_lemma =>
        have H := HC31.out
        clear HC31
        replace H := bS H
        obtain ⟨t522, A32, H⟩ := H
        try dsimp only at H
        replace H := bS H
        obtain ⟨t523, A33, H⟩ := H
        try dsimp only at H
        by_cases c34 : t522 = t523
        ·rw [if_pos c34] at H
         have c34b0 := e1 c34
         have c34b1 := e2 c34
         clear c34
         (first | rw [c34b0] | (simp only [i64_w, i32_w]; rw [c34b0]) | skip)
         have H' := Aside0.mk H
         clear H
         obtain ⟨Ao35, co35, eo35⟩ := Kd.R_slice HO_7.out
         subst eo35
         go_wp2_with (first | ((with_reducible refine gC 39 rfl ?_); refine goesL_ (some 68) rfl rfl Tryd.func39 Z5 rfl #[.slice Ao35 t512.length co35, .int .i32 a1] rfl Z3 ?_; (with_reducible refine (runes_Class.calls k2 _ _ t512 a1 t522 _ ?side1 ?side2 A32.out).mono ?_); (case side1 => repeat (first | exact (Kd.R_reads' HO_7.out).2.2 | (with_reducible refine Kd.C_alloc ?_ _) | (with_reducible refine Kd.C_drewN ?_ _) | (with_reducible refine Kd.C_drew ?_))); (case side2 => exact (Kd.R_reads' HO_7.out).2.1); rintro e w' ⟨rfl, ⟨nd, rfl⟩⟩; refine ⟨_, rfl, ?_⟩) | ((with_reducible refine gC 39 rfl ?_); refine goesL_ (some 71) rfl rfl Tryd.func39 Z5 rfl #[.slice Ao35 t512.length co35, .int .i32 a2] rfl Z3 ?_; (with_reducible refine (runes_Class.calls k2 _ _ t512 a2 t523 _ ?side1 ?side2 A33.out).mono ?_); (case side1 => repeat (first | exact (Kd.R_reads' HO_7.out).2.2 | (with_reducible refine Kd.C_alloc ?_ _) | (with_reducible refine Kd.C_drewN ?_ _) | (with_reducible refine Kd.C_drew ?_))); (case side2 => exact (Kd.R_reads' HO_7.out).2.1); rintro e w' ⟨rfl, ⟨nd, rfl⟩⟩; refine ⟨_, rfl, ?_⟩))
         go_meet
         case rel => exact ⟨_, (!x9_2), Z2, H', ⟨by have := HJ4.out; have := HK2.out; first | omega | exact Nat.le_refl _⟩, ⟨Z13⟩, ⟨Z0⟩⟩
        ·rw [if_neg c34] at H
         have c34b0 := e3 c34
         have c34b1 := e4 c34
         (first | rw [c34b0] | (simp only [i64_w, i32_w]; rw [c34b0]) | skip)
         have H' := Aside0.mk H
         clear H
         obtain ⟨Ao36, co36, eo36⟩ := Kd.R_slice HO_7.out
         subst eo36
         go_wp2_with (first | ((with_reducible refine gC 39 rfl ?_); refine goesL_ (some 68) rfl rfl Tryd.func39 Z5 rfl #[.slice Ao36 t512.length co36, .int .i32 a1] rfl Z3 ?_; (with_reducible refine (runes_Class.calls k2 _ _ t512 a1 t522 _ ?side1 ?side2 A32.out).mono ?_); (case side1 => repeat (first | exact (Kd.R_reads' HO_7.out).2.2 | (with_reducible refine Kd.C_alloc ?_ _) | (with_reducible refine Kd.C_drewN ?_ _) | (with_reducible refine Kd.C_drew ?_))); (case side2 => exact (Kd.R_reads' HO_7.out).2.1); rintro e w' ⟨rfl, ⟨nd, rfl⟩⟩; refine ⟨_, rfl, ?_⟩) | ((with_reducible refine gC 39 rfl ?_); refine goesL_ (some 71) rfl rfl Tryd.func39 Z5 rfl #[.slice Ao36 t512.length co36, .int .i32 a2] rfl Z3 ?_; (with_reducible refine (runes_Class.calls k2 _ _ t512 a2 t523 _ ?side1 ?side2 A33.out).mono ?_); (case side1 => repeat (first | exact (Kd.R_reads' HO_7.out).2.2 | (with_reducible refine Kd.C_alloc ?_ _) | (with_reducible refine Kd.C_drewN ?_ _) | (with_reducible refine Kd.C_drew ?_))); (case side2 => exact (Kd.R_reads' HO_7.out).2.1); rintro e w' ⟨rfl, ⟨nd, rfl⟩⟩; refine ⟨_, rfl, ?_⟩))
         go_meet
         case rel => exact ⟨_, (false), Z2, H', ⟨by have := HJ4.out; have := HK2.out; first | omega | exact Nat.le_refl _⟩, ⟨Z13⟩, ⟨Z0⟩⟩
       case rest => as_aux_lemma =>
        clear HC31
        try clear c1
        try clear c2
        try clear p2
        try clear c3
        try clear c5
        try clear p5
        try clear q5
        try clear hx5
        try clear p6
        try clear c7
        try clear c7b0
        try clear c7b1
        try clear c8
        try clear c8b0
        try clear c9
        try clear c9b0
        try clear c10
        try clear c10b0
        try clear c11
        try clear c12
        try clear c12b0
        try clear c12b1
        try clear c15
        try clear c15b0
        try clear c15b1
        try clear c15b2
        try clear c20
        try clear c20b0
        try clear c21
        try clear c21b0
        try clear c24
        try clear c24b0
        try clear c24b1
        try clear c24b2
        try clear c33
        try clear c34
        try clear c34b0
        try clear c34b1
        try clear hx518_0
        try clear hx520_0
        try clear p2
        try clear p518
        try clear p520
        try clear q518
        try clear q520
        obtain ⟨kq, x76_30, rfl, HA, HJ30, HO_7, HB⟩ := hcut
        cases kq with
        | zero => exact absurd HA.out (by simp [quoinlaw02_RunesSplits.j2])
        | succ kj30 =>
         have H := HA.out
         clear HA
         simp only [quoinlaw02_RunesSplits.j2] at H
         by_cases c37 : x76_30 = true
         ·subst c37
          have H1 : (some false) = some r := by rw [if_pos rfl] at H; exact H
          clear H
          have H := H1
          clear H1
          obtain rfl := Option.some.inj H
          go_wp2
          go_ret
          exact ⟨Z4, Z0⟩
         ·replace c37 := Bool.eq_false_iff.mpr c37
          subst c37
          have H1 : (quoinlaw02_RunesSplits.l1 kj30 l0 t512 1) = some r := by rw [if_neg (show ¬ (false = true) by decide)] at H; exact H
          clear H
          have H := H1
          clear H1
          have H' := Aside0.mk H
          clear H
          go_wp2
          go_loopg [11] kj30 (fun kq v11 w' => ∃ (x11_4 : Int), v11 = .int .i64 x11_4 ∧ Aside0 (quoinlaw02_RunesSplits.l1 kq l0 t512 x11_4 = some r) ∧ Aside0 (kq ≤ kj30) ∧ Aside0 (Kd.R (Kd.int .i32) 21 w' w.heap.size (fun _ => True) v514 t512) ∧ Aside0 (Below w.heap.size w w'))
          case atStart => exact ⟨(1), Z2, H', ⟨Nat.le_refl _⟩, ⟨Z13⟩, ⟨Z0⟩⟩
          case round =>
           clear H'
           try clear c1
           try clear c2
           try clear p2
           try clear c3
           try clear c5
           try clear p5
           try clear q5
           try clear hx5
           try clear p6
           try clear c7
           try clear c7b0
           try clear c7b1
           try clear c8
           try clear c8b0
           try clear c9
           try clear c9b0
           try clear c10
           try clear c10b0
           try clear c11
           try clear c12
           try clear c12b0
           try clear c12b1
           try clear c15
           try clear c15b0
           try clear c15b1
           try clear c15b2
           try clear c20
           try clear c20b0
           try clear c21
           try clear c21b0
           try clear c24
           try clear c24b0
           try clear c24b1
           try clear c24b2
           try clear c33
           try clear c34
           try clear c34b0
           try clear c34b1
           try clear c37
           try clear hx518_0
           try clear hx520_0
           try clear p2
           try clear p5
           try clear p518
           try clear p520
           try clear p6
           try clear q5
           try clear q518
           try clear q520
           obtain ⟨x11_4, rfl, HA, HK4, HO_7, HB⟩ := hrel
           cases gk with
           | zero => exact absurd HA.out (by simp [quoinlaw02_RunesSplits.l1])
           | succ k4 =>
            have H := HA.out
            clear HA
            simp only [quoinlaw02_RunesSplits.l1] at H
            by_cases c38 : x11_4 < (t512.length : Int)
            ·rw [if_pos c38] at H
             have c38b0 := decide_eq_true c38
             clear c38
             have H' := Aside0.mk H
             clear H
             obtain ⟨Ao39, co39, eo39⟩ := Kd.R_slice HO_7.out
             subst eo39
             go_wp2
             go_loopg [12, 13] k4 (fun kq v12 v13 w' => ∃ (x12_5 : Bool) (x13_5 : Int), v12 = .bool x12_5 ∧ v13 = .int .i64 x13_5 ∧ Aside0 (quoinlaw02_RunesSplits.l2 kq l0 t512 x11_4 x12_5 x13_5 = some r) ∧ Aside0 (kq ≤ k4) ∧ Aside0 (Kd.R (Kd.int .i32) 21 w' w.heap.size (fun _ => True) (.slice Ao39 t512.length co39) t512) ∧ Aside0 (Below w.heap.size w w'))
             case atStart => exact ⟨(false), (0), Z2, Z2, H', ⟨Nat.le_refl _⟩, ⟨Z13⟩, ⟨Z0⟩⟩
             case round =>
              clear H'
              try clear c1
              try clear c2
              try clear p2
              try clear c3
              try clear c5
              try clear p5
              try clear q5
              try clear hx5
              try clear p6
              try clear c7
              try clear c7b0
              try clear c7b1
              try clear c8
              try clear c8b0
              try clear c9
              try clear c9b0
              try clear c10
              try clear c10b0
              try clear c11
              try clear c12
              try clear c12b0
              try clear c12b1
              try clear c15
              try clear c15b0
              try clear c15b1
              try clear c15b2
              try clear c20
              try clear c20b0
              try clear c21
              try clear c21b0
              try clear c24
              try clear c24b0
              try clear c24b1
              try clear c24b2
              try clear c33
              try clear c34
              try clear c34b0
              try clear c34b1
              try clear c37
              try clear c38
              try clear c38b0
              try clear c39
              try clear hx518_0
              try clear hx520_0
              try clear p2
              try clear p5
              try clear p518
              try clear p520
              try clear p6
              try clear q5
              try clear q518
              try clear q520
              obtain ⟨x12_5, x13_5, rfl, rfl, HA, HK5, HO_7, HB⟩ := hrel
              cases gk with
              | zero => exact absurd HA.out (by simp [quoinlaw02_RunesSplits.l2])
              | succ k5 =>
               have H := HA.out
               clear HA
               simp only [quoinlaw02_RunesSplits.l2] at H
               by_cases c40 : x13_5 < (l0.length : Int)
               ·rw [if_pos c40] at H
                have c40b0 := decide_eq_true c40
                clear c40
                by_cases c41 : 0 ≤ x13_5
                ·rw [if_pos c41] at H
                 have c41b0 := decide_eq_true c41
                 clear c41
                 by_cases c42 : 0 ≤ x11_4
                 ·rw [if_pos c42] at H
                  have c42b0 := decide_eq_true c42
                  clear c42
                  by_cases c43 : x11_4 < (t512.length : Int)
                  ·rw [if_pos c43] at H
                   have c43b0 := decide_eq_true c43
                   clear c43
                   replace H := bS H
                   obtain ⟨t530, A44, H⟩ := H
                   try dsimp only at H
                   replace H := bS H
                   obtain ⟨t533, A45, H⟩ := H
                   try dsimp only at H
                   by_cases c46 : (t530 != t533) = true
                   ·rw [if_pos c46] at H
                    have c46b0 : (t530 != t533) = true := c46
                    (try (have c46b1 : decide (t530 = t533) = false := by simpa using c46))
                    (try (have c46b2 : (t530 == t533) = false := by simpa using c46))
                    (try (have c46b3 : ¬ (t530 = t533) := by simpa using c46))
                    clear c46
                    have H' := Aside0.mk H
                    clear H
                    try go_wp2
                    replace HO_7 := Aside0.mk (Kd.R_drew HO_7.out)
                    replace HB := Aside0.mk (below_drew1 HB.out)
                    have p528 : 0 ≤ (x13_5 : Int) := of_decide_eq_true Z1
                    have q528 : x13_5 < (l0.length : Int) := of_decide_eq_true Z1
                    obtain ⟨ad528, A528_0, c528_0, e528, hx528_0, hl528_0, hi528_0⟩ := at_L2 HR0.out x13_5 p528 q528
                    have hw528_0 := hx528_0
                    cases e528
                    replace hx528_0 := (HB.out.cell (World.block_lt_of_cell? w _ hx528_0)).trans hx528_0
                    have HR528_0 := Aside0.mk hi528_0
                    have HC528_0 := Aside0.mk hl528_0
                    clear hi528_0 hl528_0
                    replace p528 := eq_true p528
                    replace q528 := eq_true q528
                    have p529 : 0 ≤ (x11_4 : Int) := of_decide_eq_true Z1
                    have q529 : x11_4 < (t512.length : Int) := of_decide_eq_true Z1
                    obtain ⟨ad529, e529, hx529_0⟩ := Kd.at_int (Kd.R_reads' HO_7.out).2.2 x11_4 p529 q529
                    cases e529
                    replace p529 := eq_true p529
                    replace q529 := eq_true q529
                    have p531 : 0 ≤ (x13_5 : Int) := of_decide_eq_true Z1
                    have q531 : x13_5 < (l0.length : Int) := of_decide_eq_true Z1
                    obtain ⟨ad531, A531_0, c531_0, e531, hx531_0, hl531_0, hi531_0⟩ := at_L2 HR0.out x13_5 p531 q531
                    have hw531_0 := hx531_0
                    obtain rfl : ad528 = ad531 := (by injection e531)
                    replace hx531_0 := (HB.out.cell (World.block_lt_of_cell? w _ hx531_0)).trans hx531_0
                    have HR531_0 := Aside0.mk hi531_0
                    have HC531_0 := Aside0.mk hl531_0
                    clear hi531_0 hl531_0
                    replace p531 := eq_true p531
                    replace q531 := eq_true q531
                    have ea_ := Option.some.inj (hx528_0.symm.trans hx531_0)
                    injection ea_ with ea_ en_ ec_
                    subst ea_
                    subst ec_
                    clear en_
                    have p532 : 0 ≤ (x11_4 : Int) := of_decide_eq_true Z1
                    have q532 : x11_4 < (t512.length : Int) := of_decide_eq_true Z1
                    obtain ⟨ad532, e532, hx532_0⟩ := Kd.at_int (Kd.R_reads' HO_7.out).2.2 x11_4 p532 q532
                    obtain rfl : ad529 = ad532 := (by injection e532)
                    replace p532 := eq_true p532
                    replace q532 := eq_true q532
                    refine start_ (n := 20) (S := fun w' => w'.cell? (ad528.add (x13_5).toNat) = some (.slice A528_0 (rd_L2 l0 x13_5).length c528_0) ∧ w'.cell? (ad529.add (x11_4).toNat) = some (.int .i32 (rd t512 x11_4)) ∧ w'.cell? (ad528.add (x13_5).toNat) = some (.slice A528_0 (rd_L2 l0 x13_5).length c528_0) ∧ w'.cell? (ad529.add (x11_4).toNat) = some (.int .i32 (rd t512 x11_4))) (ds := []) #[false, false, false, false, false, false, false, false, false, false, false, false, false, false, false, false, false, false, false, false] Z5 rfl rfl ⟨((HB.out.cell (World.block_lt_of_cell? w _ hw528_0)).trans hw528_0), hx529_0, ((HB.out.cell (World.block_lt_of_cell? w _ hw531_0)).trans hw531_0), hx532_0⟩ (fun hHeld => ?_); refine with_tabW quoinlaw02_RunesSplits.tab19 quoinlaw02_RunesSplits.bits19 (fun HT_ HW_ => ?_)
                    generalize wr.drew = w47 at HO_7 HB HR528_0 HR531_0 hx528_0 hx529_0 hx531_0 hx532_0 hHeld ⊢
                    refine pU 0 89 (hc := (any_of HT_.out Z5)) (h := ?_)
                    refine pU 1 90 (hc := (any_of HT_.out Z5)) (h := ?_)
                    refine pU 2 91 (hc := (any_of HT_.out Z5)) (h := ?_)
                    refine pU 4 93 (hc := (any_of HT_.out Z5)) (h := ?_)
                    refine pU 5 94 (hc := (any_of HT_.out Z5)) (h := ?_)
                    refine pU 6 95 (hc := (any_of HT_.out Z5)) (h := ?_)
                    refine pU 10 99 (hc := (any_of HT_.out Z5)) (h := ?_)
                    refine pU 11 100 (hc := (any_of HT_.out Z5)) (h := ?_)
                    refine pU 12 101 (hc := (any_of HT_.out Z5)) (h := ?_)
                    refine pU 14 103 (hc := (any_of HT_.out Z5)) (h := ?_)
                    refine pU 15 104 (hc := (any_of HT_.out Z5)) (h := ?_)
                    refine pU 16 105 (hc := (any_of HT_.out Z5)) (h := ?_)
                    refine take_ (i := 3) (N := some 92) (v := ?_) (a' := ?_) #[true, true, true, true, true, true, true, false, false, false, true, true, true, false, true, true, true, false, false, false] rfl rfl (take_ofW HT_.out HW_.out Z5) (fun _ _ _ h => h) (Or.inl ⟨by rfl, ?_⟩) hHeld ?_ ?_
                    rotate_left
                    ·rintro w' ⟨s0, s1, s2, s3⟩
                     go_simp
                     with_reducible rfl
                    rotate_left
                    ·simp only [Act.put, List.setIfInBounds_toArray, List.set_cons_zero, List.set_cons_succ, i64_w, i32_w]
                     rfl
                    refine take_ (i := 7) (N := some 96) (v := ?_) (a' := ?_) #[true, true, true, true, true, true, true, true, false, false, true, true, true, false, true, true, true, false, false, false] rfl rfl (take_ofW HT_.out HW_.out Z5) (fun _ _ _ h => h) (Or.inl ⟨by rfl, ?_⟩) hHeld ?_ ?_
                    rotate_left
                    ·rintro w' ⟨s0, s1, s2, s3⟩
                     go_simp
                     with_reducible rfl
                    rotate_left
                    ·simp only [Act.put, List.setIfInBounds_toArray, List.set_cons_zero, List.set_cons_succ, i64_w, i32_w]
                     rfl
                    refine pU 8 97 (hc := (any_of HT_.out Z5)) (h := ?_)
                    refine take_ (i := 13) (N := some 102) (v := ?_) (a' := ?_) #[true, true, true, true, true, true, true, true, true, false, true, true, true, true, true, true, true, false, false, false] rfl rfl (take_ofW HT_.out HW_.out Z5) (fun _ _ _ h => h) (Or.inl ⟨by rfl, ?_⟩) hHeld ?_ ?_
                    rotate_left
                    ·rintro w' ⟨s0, s1, s2, s3⟩
                     go_simp
                     with_reducible rfl
                    rotate_left
                    ·simp only [Act.put, List.setIfInBounds_toArray, List.set_cons_zero, List.set_cons_succ, i64_w, i32_w]
                     rfl
                    refine take_ (i := 17) (N := some 106) (v := ?_) (a' := ?_) #[true, true, true, true, true, true, true, true, true, false, true, true, true, true, true, true, true, true, false, false] rfl rfl (take_ofW HT_.out HW_.out Z5) (fun _ _ _ h => h) (Or.inl ⟨by rfl, ?_⟩) hHeld ?_ ?_
                    rotate_left
                    ·rintro w' ⟨s0, s1, s2, s3⟩
                     go_simp
                     with_reducible rfl
                    rotate_left
                    ·simp only [Act.put, List.setIfInBounds_toArray, List.set_cons_zero, List.set_cons_succ, i64_w, i32_w]
                     rfl
                    refine oN 9 (some 98) (hc := (one_of HT_.out Z5)) (h := fun K hK => ?_)
                    refine goes_ Tryd.func33 Z5 rfl #[.slice A528_0 (rd_L2 l0 x13_5).length c528_0, .int .i32 (wrap32 ((rd t512 x11_4) - 1))] (by rfl) rfl rfl Z3 ?_
                    with_reducible refine (runes_Has.calls k5 _ _ (rd_L2 l0 x13_5) (wrap32 ((rd t512 x11_4) - 1)) t530 _ ?side1 ?side2 A44.out).mono ?_
                    (case side1 => repeat (first | exact (Kd.C_below HR528_0.out HB.out) | (with_reducible refine Kd.C_alloc ?_ _) | (with_reducible refine Kd.C_drewN ?_ _) | (with_reducible refine Kd.C_drew ?_)))
                    (case side2 => exact HC528_0.out)
                    rintro e w48 ⟨rfl, hb⟩
                    have HS1_ := (hb.cell (World.block_lt_of_cell? _ _ (hHeld.2.1))).trans (hHeld.2.1)
                    have HS3_ := (hb.cell (World.block_lt_of_cell? _ _ (hHeld.2.2.2))).trans (hHeld.2.2.2)
                    refine ⟨_, rfl, ?_⟩
                    replace HO_7 := Aside0.mk (Kd.R_below (kK HO_7) hb)
                    replace HB := Aside0.mk (below_step zB hb)
                    (try clear hb)
                    (try clear hb2)
                    (try clear hk)
                    (try clear hi)
                    refine hK.out _ _ ⟨((HB.out.cell (World.block_lt_of_cell? w _ hw528_0)).trans hw528_0), HS1_, ((HB.out.cell (World.block_lt_of_cell? w _ hw531_0)).trans hw531_0), HS3_⟩ (fun hHeld => ?_)
                    clear hK K
                    refine nO 98 (h := ?_)
                    refine oN 18 (some 107) (hc := (one_of HT_.out Z5)) (h := fun K hK => ?_)
                    refine goes_ Tryd.func33 Z5 rfl #[.slice A528_0 (rd_L2 l0 x13_5).length c528_0, .int .i32 (rd t512 x11_4)] (by rfl) rfl rfl Z3 ?_
                    with_reducible refine (runes_Has.calls k5 _ _ (rd_L2 l0 x13_5) (rd t512 x11_4) t533 _ ?side1 ?side2 A45.out).mono ?_
                    (case side1 => repeat (first | exact (Kd.C_below HR531_0.out HB.out) | (with_reducible refine Kd.C_alloc ?_ _) | (with_reducible refine Kd.C_drewN ?_ _) | (with_reducible refine Kd.C_drew ?_)))
                    (case side2 => exact HC531_0.out)
                    rintro e w49 ⟨rfl, hb⟩
                    have HS1_ := (hb.cell (World.block_lt_of_cell? _ _ (hHeld.2.1))).trans (hHeld.2.1)
                    have HS3_ := (hb.cell (World.block_lt_of_cell? _ _ (hHeld.2.2.2))).trans (hHeld.2.2.2)
                    refine ⟨_, rfl, ?_⟩
                    replace HO_7 := Aside0.mk (Kd.R_below (kK HO_7) hb)
                    replace HB := Aside0.mk (below_step zB hb)
                    (try clear hb)
                    (try clear hb2)
                    (try clear hk)
                    (try clear hi)
                    refine hK.out _ _ ⟨((HB.out.cell (World.block_lt_of_cell? w _ hw528_0)).trans hw528_0), HS1_, ((HB.out.cell (World.block_lt_of_cell? w _ hw531_0)).trans hw531_0), HS3_⟩ (fun hHeld => ?_)
                    clear hK K
                    refine nO 107 (h := ?_)
                    refine pU 19 108 (hc := (any_of HT_.out Z5)) (h := ?_)
                    refine done_ (done_of HT_.out Z5) ?_
                    try go_wp2
                    go_roundg k5
                    case measure => have := HJ4.out; have := HK2.out; have := HJ30.out; have := HK4.out; have := HK5.out; omega
                    case rel => exact ⟨(true), (wrap64 (x13_5 + 1)), Z2, Z2, H', ⟨by have := HJ4.out; have := HK2.out; have := HJ30.out; have := HK4.out; have := HK5.out; omega⟩, ⟨Z13⟩, ⟨Z0⟩⟩
                   ·rw [if_neg c46] at H
                    have c46b0 : (t530 != t533) = false := by simpa using c46
                    (try (have c46b1 : decide (t530 = t533) = true := by simpa using c46))
                    (try (have c46b2 : (t530 == t533) = true := by simpa using c46))
                    clear c46
                    have H' := Aside0.mk H
                    clear H
                    try go_wp2
                    replace HO_7 := Aside0.mk (Kd.R_drew HO_7.out)
                    replace HB := Aside0.mk (below_drew1 HB.out)
                    have p528 : 0 ≤ (x13_5 : Int) := of_decide_eq_true Z1
                    have q528 : x13_5 < (l0.length : Int) := of_decide_eq_true Z1
                    obtain ⟨ad528, A528_0, c528_0, e528, hx528_0, hl528_0, hi528_0⟩ := at_L2 HR0.out x13_5 p528 q528
                    have hw528_0 := hx528_0
                    cases e528
                    replace hx528_0 := (HB.out.cell (World.block_lt_of_cell? w _ hx528_0)).trans hx528_0
                    have HR528_0 := Aside0.mk hi528_0
                    have HC528_0 := Aside0.mk hl528_0
                    clear hi528_0 hl528_0
                    replace p528 := eq_true p528
                    replace q528 := eq_true q528
                    have p529 : 0 ≤ (x11_4 : Int) := of_decide_eq_true Z1
                    have q529 : x11_4 < (t512.length : Int) := of_decide_eq_true Z1
                    obtain ⟨ad529, e529, hx529_0⟩ := Kd.at_int (Kd.R_reads' HO_7.out).2.2 x11_4 p529 q529
                    cases e529
                    replace p529 := eq_true p529
                    replace q529 := eq_true q529
                    have p531 : 0 ≤ (x13_5 : Int) := of_decide_eq_true Z1
                    have q531 : x13_5 < (l0.length : Int) := of_decide_eq_true Z1
                    obtain ⟨ad531, A531_0, c531_0, e531, hx531_0, hl531_0, hi531_0⟩ := at_L2 HR0.out x13_5 p531 q531
                    have hw531_0 := hx531_0
                    obtain rfl : ad528 = ad531 := (by injection e531)
                    replace hx531_0 := (HB.out.cell (World.block_lt_of_cell? w _ hx531_0)).trans hx531_0
                    have HR531_0 := Aside0.mk hi531_0
                    have HC531_0 := Aside0.mk hl531_0
                    clear hi531_0 hl531_0
                    replace p531 := eq_true p531
                    replace q531 := eq_true q531
                    have ea_ := Option.some.inj (hx528_0.symm.trans hx531_0)
                    injection ea_ with ea_ en_ ec_
                    subst ea_
                    subst ec_
                    clear en_
                    have p532 : 0 ≤ (x11_4 : Int) := of_decide_eq_true Z1
                    have q532 : x11_4 < (t512.length : Int) := of_decide_eq_true Z1
                    obtain ⟨ad532, e532, hx532_0⟩ := Kd.at_int (Kd.R_reads' HO_7.out).2.2 x11_4 p532 q532
                    obtain rfl : ad529 = ad532 := (by injection e532)
                    replace p532 := eq_true p532
                    replace q532 := eq_true q532
                    refine start_ (n := 20) (S := fun w' => w'.cell? (ad528.add (x13_5).toNat) = some (.slice A528_0 (rd_L2 l0 x13_5).length c528_0) ∧ w'.cell? (ad529.add (x11_4).toNat) = some (.int .i32 (rd t512 x11_4)) ∧ w'.cell? (ad528.add (x13_5).toNat) = some (.slice A528_0 (rd_L2 l0 x13_5).length c528_0) ∧ w'.cell? (ad529.add (x11_4).toNat) = some (.int .i32 (rd t512 x11_4))) (ds := []) #[false, false, false, false, false, false, false, false, false, false, false, false, false, false, false, false, false, false, false, false] Z5 rfl rfl ⟨((HB.out.cell (World.block_lt_of_cell? w _ hw528_0)).trans hw528_0), hx529_0, ((HB.out.cell (World.block_lt_of_cell? w _ hw531_0)).trans hw531_0), hx532_0⟩ (fun hHeld => ?_); refine with_tabW quoinlaw02_RunesSplits.tab19 quoinlaw02_RunesSplits.bits19 (fun HT_ HW_ => ?_)
                    generalize wr.drew = w50 at HO_7 HB HR528_0 HR531_0 hx528_0 hx529_0 hx531_0 hx532_0 hHeld ⊢
                    refine pU 0 89 (hc := (any_of HT_.out Z5)) (h := ?_)
                    refine pU 1 90 (hc := (any_of HT_.out Z5)) (h := ?_)
                    refine pU 2 91 (hc := (any_of HT_.out Z5)) (h := ?_)
                    refine pU 4 93 (hc := (any_of HT_.out Z5)) (h := ?_)
                    refine pU 5 94 (hc := (any_of HT_.out Z5)) (h := ?_)
                    refine pU 6 95 (hc := (any_of HT_.out Z5)) (h := ?_)
                    refine pU 10 99 (hc := (any_of HT_.out Z5)) (h := ?_)
                    refine pU 11 100 (hc := (any_of HT_.out Z5)) (h := ?_)
                    refine pU 12 101 (hc := (any_of HT_.out Z5)) (h := ?_)
                    refine pU 14 103 (hc := (any_of HT_.out Z5)) (h := ?_)
                    refine pU 15 104 (hc := (any_of HT_.out Z5)) (h := ?_)
                    refine pU 16 105 (hc := (any_of HT_.out Z5)) (h := ?_)
                    refine take_ (i := 3) (N := some 92) (v := ?_) (a' := ?_) #[true, true, true, true, true, true, true, false, false, false, true, true, true, false, true, true, true, false, false, false] rfl rfl (take_ofW HT_.out HW_.out Z5) (fun _ _ _ h => h) (Or.inl ⟨by rfl, ?_⟩) hHeld ?_ ?_
                    rotate_left
                    ·rintro w' ⟨s0, s1, s2, s3⟩
                     go_simp
                     with_reducible rfl
                    rotate_left
                    ·simp only [Act.put, List.setIfInBounds_toArray, List.set_cons_zero, List.set_cons_succ, i64_w, i32_w]
                     rfl
                    refine take_ (i := 7) (N := some 96) (v := ?_) (a' := ?_) #[true, true, true, true, true, true, true, true, false, false, true, true, true, false, true, true, true, false, false, false] rfl rfl (take_ofW HT_.out HW_.out Z5) (fun _ _ _ h => h) (Or.inl ⟨by rfl, ?_⟩) hHeld ?_ ?_
                    rotate_left
                    ·rintro w' ⟨s0, s1, s2, s3⟩
                     go_simp
                     with_reducible rfl
                    rotate_left
                    ·simp only [Act.put, List.setIfInBounds_toArray, List.set_cons_zero, List.set_cons_succ, i64_w, i32_w]
                     rfl
                    refine pU 8 97 (hc := (any_of HT_.out Z5)) (h := ?_)
                    refine take_ (i := 13) (N := some 102) (v := ?_) (a' := ?_) #[true, true, true, true, true, true, true, true, true, false, true, true, true, true, true, true, true, false, false, false] rfl rfl (take_ofW HT_.out HW_.out Z5) (fun _ _ _ h => h) (Or.inl ⟨by rfl, ?_⟩) hHeld ?_ ?_
                    rotate_left
                    ·rintro w' ⟨s0, s1, s2, s3⟩
                     go_simp
                     with_reducible rfl
                    rotate_left
                    ·simp only [Act.put, List.setIfInBounds_toArray, List.set_cons_zero, List.set_cons_succ, i64_w, i32_w]
                     rfl
                    refine take_ (i := 17) (N := some 106) (v := ?_) (a' := ?_) #[true, true, true, true, true, true, true, true, true, false, true, true, true, true, true, true, true, true, false, false] rfl rfl (take_ofW HT_.out HW_.out Z5) (fun _ _ _ h => h) (Or.inl ⟨by rfl, ?_⟩) hHeld ?_ ?_
                    rotate_left
                    ·rintro w' ⟨s0, s1, s2, s3⟩
                     go_simp
                     with_reducible rfl
                    rotate_left
                    ·simp only [Act.put, List.setIfInBounds_toArray, List.set_cons_zero, List.set_cons_succ, i64_w, i32_w]
                     rfl
                    refine oN 9 (some 98) (hc := (one_of HT_.out Z5)) (h := fun K hK => ?_)
                    refine goes_ Tryd.func33 Z5 rfl #[.slice A528_0 (rd_L2 l0 x13_5).length c528_0, .int .i32 (wrap32 ((rd t512 x11_4) - 1))] (by rfl) rfl rfl Z3 ?_
                    with_reducible refine (runes_Has.calls k5 _ _ (rd_L2 l0 x13_5) (wrap32 ((rd t512 x11_4) - 1)) t530 _ ?side1 ?side2 A44.out).mono ?_
                    (case side1 => repeat (first | exact (Kd.C_below HR528_0.out HB.out) | (with_reducible refine Kd.C_alloc ?_ _) | (with_reducible refine Kd.C_drewN ?_ _) | (with_reducible refine Kd.C_drew ?_)))
                    (case side2 => exact HC528_0.out)
                    rintro e w51 ⟨rfl, hb⟩
                    have HS1_ := (hb.cell (World.block_lt_of_cell? _ _ (hHeld.2.1))).trans (hHeld.2.1)
                    have HS3_ := (hb.cell (World.block_lt_of_cell? _ _ (hHeld.2.2.2))).trans (hHeld.2.2.2)
                    refine ⟨_, rfl, ?_⟩
                    replace HO_7 := Aside0.mk (Kd.R_below (kK HO_7) hb)
                    replace HB := Aside0.mk (below_step zB hb)
                    (try clear hb)
                    (try clear hb2)
                    (try clear hk)
                    (try clear hi)
                    refine hK.out _ _ ⟨((HB.out.cell (World.block_lt_of_cell? w _ hw528_0)).trans hw528_0), HS1_, ((HB.out.cell (World.block_lt_of_cell? w _ hw531_0)).trans hw531_0), HS3_⟩ (fun hHeld => ?_)
                    clear hK K
                    refine nO 98 (h := ?_)
                    refine oN 18 (some 107) (hc := (one_of HT_.out Z5)) (h := fun K hK => ?_)
                    refine goes_ Tryd.func33 Z5 rfl #[.slice A528_0 (rd_L2 l0 x13_5).length c528_0, .int .i32 (rd t512 x11_4)] (by rfl) rfl rfl Z3 ?_
                    with_reducible refine (runes_Has.calls k5 _ _ (rd_L2 l0 x13_5) (rd t512 x11_4) t533 _ ?side1 ?side2 A45.out).mono ?_
                    (case side1 => repeat (first | exact (Kd.C_below HR531_0.out HB.out) | (with_reducible refine Kd.C_alloc ?_ _) | (with_reducible refine Kd.C_drewN ?_ _) | (with_reducible refine Kd.C_drew ?_)))
                    (case side2 => exact HC531_0.out)
                    rintro e w52 ⟨rfl, hb⟩
                    have HS1_ := (hb.cell (World.block_lt_of_cell? _ _ (hHeld.2.1))).trans (hHeld.2.1)
                    have HS3_ := (hb.cell (World.block_lt_of_cell? _ _ (hHeld.2.2.2))).trans (hHeld.2.2.2)
                    refine ⟨_, rfl, ?_⟩
                    replace HO_7 := Aside0.mk (Kd.R_below (kK HO_7) hb)
                    replace HB := Aside0.mk (below_step zB hb)
                    (try clear hb)
                    (try clear hb2)
                    (try clear hk)
                    (try clear hi)
                    refine hK.out _ _ ⟨((HB.out.cell (World.block_lt_of_cell? w _ hw528_0)).trans hw528_0), HS1_, ((HB.out.cell (World.block_lt_of_cell? w _ hw531_0)).trans hw531_0), HS3_⟩ (fun hHeld => ?_)
                    clear hK K
                    refine nO 107 (h := ?_)
                    refine pU 19 108 (hc := (any_of HT_.out Z5)) (h := ?_)
                    refine done_ (done_of HT_.out Z5) ?_
                    try go_wp2
                    go_roundg k5
                    case measure => have := HJ4.out; have := HK2.out; have := HJ30.out; have := HK4.out; have := HK5.out; omega
                    case rel => exact ⟨(x12_5), (wrap64 (x13_5 + 1)), Z2, Z2, H', ⟨by have := HJ4.out; have := HK2.out; have := HJ30.out; have := HK4.out; have := HK5.out; omega⟩, ⟨Z13⟩, ⟨Z0⟩⟩
                  ·rw [if_neg c43] at H
                   exact absurd H Z19
                 ·rw [if_neg c42] at H
                  exact absurd H Z19
                ·rw [if_neg c41] at H
                 exact absurd H Z19
               ·rw [if_neg c40] at H
                have c40b0 := decide_eq_false c40
                clear c40
                by_cases c53 : x12_5 = true
                ·subst c53
                 have H1 : (if 0 ≤ x11_4 then (if x11_4 < (t512.length : Int) then (if 0 ≤ (wrap64 (x11_4 - 1)) then (if (wrap64 (x11_4 - 1)) < (t512.length : Int) then (if (rd t512 x11_4) ≤ (rd t512 (wrap64 (x11_4 - 1))) then (some false) else (quoinlaw02_RunesSplits.l1 k5 l0 t512 (wrap64 (x11_4 + 1)))) else (none)) else (none)) else (none)) else (none)) = some r := by rw [if_pos rfl] at H; exact H
                 clear H
                 have H := H1
                 clear H1
                 by_cases c54 : 0 ≤ x11_4
                 ·rw [if_pos c54] at H
                  have c54b0 := decide_eq_true c54
                  clear c54
                  by_cases c55 : x11_4 < (t512.length : Int)
                  ·rw [if_pos c55] at H
                   have c55b0 := decide_eq_true c55
                   clear c55
                   obtain ⟨ji56, hji56⟩ : ∃ j_ : Int, (wrap64 (x11_4 - 1)) = j_ := ⟨_, rfl⟩
                   replace H : (if 0 ≤ (ji56) then (if (ji56) < (t512.length : Int) then (if (rd t512 x11_4) ≤ (rd t512 (ji56)) then (some false) else (quoinlaw02_RunesSplits.l1 k5 l0 t512 (wrap64 (x11_4 + 1)))) else (none)) else (none)) = some r := by first | (rw [hji56] at H; exact H) | (simp only [hji56] at H ⊢; exact H)
                   have hji56w : (IntKind.i64.wrap (x11_4 - 1)) = ji56 := (i64_w _).trans hji56
                   by_cases c57 : 0 ≤ (ji56)
                   ·rw [if_pos c57] at H
                    have c57b0 := decide_eq_true c57
                    clear c57
                    by_cases c58 : (ji56) < (t512.length : Int)
                    ·rw [if_pos c58] at H
                     have c58b0 := decide_eq_true c58
                     clear c58
                     by_cases c59 : (rd t512 x11_4) ≤ (rd t512 (ji56))
                     ·rw [if_pos c59] at H
                      have c59b0 := decide_eq_true c59
                      clear c59
                      obtain rfl := Option.some.inj H
                      try go_wp2
                      replace HO_7 := Aside0.mk (Kd.R_drew HO_7.out)
                      replace HB := Aside0.mk (below_drew1 HB.out)
                      have p526 : 0 ≤ (x11_4 : Int) := of_decide_eq_true Z1
                      have q526 : x11_4 < (t512.length : Int) := of_decide_eq_true Z1
                      obtain ⟨ad526, e526, hx526_0⟩ := Kd.at_int (Kd.R_reads' HO_7.out).2.2 x11_4 p526 q526
                      cases e526
                      replace p526 := eq_true p526
                      replace q526 := eq_true q526
                      have p527 : 0 ≤ ((ji56) : Int) := of_decide_eq_true Z1
                      have q527 : (ji56) < (t512.length : Int) := of_decide_eq_true Z1
                      obtain ⟨ad527, e527, hx527_0⟩ := Kd.at_int (Kd.R_reads' HO_7.out).2.2 (ji56) p527 q527
                      obtain rfl : ad526 = ad527 := (by injection e527)
                      replace p527 := eq_true p527
                      replace q527 := eq_true q527
                      refine start_ (n := 14) (S := fun w' => w'.cell? (ad526.add (x11_4).toNat) = some (.int .i32 (rd t512 x11_4)) ∧ w'.cell? (ad526.add ((ji56)).toNat) = some (.int .i32 (rd t512 (ji56)))) (ds := []) #[false, false, false, false, false, false, false, false, false, false, false, false, false, false] Z5 rfl rfl ⟨hx526_0, hx527_0⟩ (fun hHeld => ?_); refine with_tabW quoinlaw02_RunesSplits.tab21 quoinlaw02_RunesSplits.bits21 (fun HT_ HW_ => ?_)
                      generalize wr.drew = w60 at HO_7 HB hx526_0 hx527_0 hHeld ⊢
                      refine pU 0 109 (hc := (any_of HT_.out Z5)) (h := ?_)
                      refine pU 1 110 (hc := (any_of HT_.out Z5)) (h := ?_)
                      refine pU 2 111 (hc := (any_of HT_.out Z5)) (h := ?_)
                      refine pU 3 112 (hc := (any_of HT_.out Z5)) (h := ?_)
                      refine pU 4 113 (hc := (any_of HT_.out Z5)) (h := ?_)
                      refine pU 5 114 (hc := (any_of HT_.out Z5)) (h := ?_)
                      refine pU 7 116 (hc := (any_of HT_.out Z5)) (h := ?_)
                      refine pU 8 117 (hc := (any_of HT_.out Z5)) (h := ?_)
                      refine pU 9 118 (hc := (any_of HT_.out Z5)) (h := ?_)
                      refine pU 10 119 (hc := (any_of HT_.out Z5)) (h := ?_)
                      refine take_ (i := 6) (N := some 115) (v := ?_) (a' := ?_) #[true, true, true, true, true, true, true, true, true, true, true, false, false, false] rfl rfl (take_ofW HT_.out HW_.out Z5) (fun _ _ _ h => h) (Or.inl ⟨by rfl, ?_⟩) hHeld ?_ ?_
                      rotate_left
                      ·rintro w' ⟨s0, s1⟩
                       go_simp
                       with_reducible rfl
                      rotate_left
                      ·simp only [Act.put, List.setIfInBounds_toArray, List.set_cons_zero, List.set_cons_succ, i64_w, i32_w]
                       rfl
                      refine take_ (i := 11) (N := some 120) (v := ?_) (a' := ?_) #[true, true, true, true, true, true, true, true, true, true, true, true, false, false] rfl rfl (take_ofW HT_.out HW_.out Z5) (fun _ _ _ h => h) (Or.inl ⟨by rfl, ?_⟩) hHeld ?_ ?_
                      rotate_left
                      ·rintro w' ⟨s0, s1⟩
                       go_simp
                       with_reducible rfl
                      rotate_left
                      ·simp only [Act.put, List.setIfInBounds_toArray, List.set_cons_zero, List.set_cons_succ, i64_w, i32_w]
                       rfl
                      refine pU 12 121 (hc := (any_of HT_.out Z5)) (h := ?_)
                      refine pU 13 122 (hc := (any_of HT_.out Z5)) (h := ?_)
                      refine done_ (done_of HT_.out Z5) ?_
                      try go_wp2
                      go_ret
                      exact ⟨by first | rfl | (simp [errW_none, errW_some] <;> rfl) | (simp only [← hji56]; first | rfl | (simp [errW_none, errW_some] <;> rfl)) | (simp [*, errW_none, errW_some] <;> rfl), Z0⟩
                     ·rw [if_neg c59] at H
                      have c59b0 := decide_eq_false c59
                      clear c59
                      have H' := Aside0.mk H
                      clear H
                      try go_wp2
                      replace HO_7 := Aside0.mk (Kd.R_drew HO_7.out)
                      replace HB := Aside0.mk (below_drew1 HB.out)
                      have p526 : 0 ≤ (x11_4 : Int) := of_decide_eq_true Z1
                      have q526 : x11_4 < (t512.length : Int) := of_decide_eq_true Z1
                      obtain ⟨ad526, e526, hx526_0⟩ := Kd.at_int (Kd.R_reads' HO_7.out).2.2 x11_4 p526 q526
                      cases e526
                      replace p526 := eq_true p526
                      replace q526 := eq_true q526
                      have p527 : 0 ≤ ((ji56) : Int) := of_decide_eq_true Z1
                      have q527 : (ji56) < (t512.length : Int) := of_decide_eq_true Z1
                      obtain ⟨ad527, e527, hx527_0⟩ := Kd.at_int (Kd.R_reads' HO_7.out).2.2 (ji56) p527 q527
                      obtain rfl : ad526 = ad527 := (by injection e527)
                      replace p527 := eq_true p527
                      replace q527 := eq_true q527
                      refine start_ (n := 14) (S := fun w' => w'.cell? (ad526.add (x11_4).toNat) = some (.int .i32 (rd t512 x11_4)) ∧ w'.cell? (ad526.add ((ji56)).toNat) = some (.int .i32 (rd t512 (ji56)))) (ds := []) #[false, false, false, false, false, false, false, false, false, false, false, false, false, false] Z5 rfl rfl ⟨hx526_0, hx527_0⟩ (fun hHeld => ?_); refine with_tabW quoinlaw02_RunesSplits.tab21 quoinlaw02_RunesSplits.bits21 (fun HT_ HW_ => ?_)
                      generalize wr.drew = w61 at HO_7 HB hx526_0 hx527_0 hHeld ⊢
                      refine pU 0 109 (hc := (any_of HT_.out Z5)) (h := ?_)
                      refine pU 1 110 (hc := (any_of HT_.out Z5)) (h := ?_)
                      refine pU 2 111 (hc := (any_of HT_.out Z5)) (h := ?_)
                      refine pU 3 112 (hc := (any_of HT_.out Z5)) (h := ?_)
                      refine pU 4 113 (hc := (any_of HT_.out Z5)) (h := ?_)
                      refine pU 5 114 (hc := (any_of HT_.out Z5)) (h := ?_)
                      refine pU 7 116 (hc := (any_of HT_.out Z5)) (h := ?_)
                      refine pU 8 117 (hc := (any_of HT_.out Z5)) (h := ?_)
                      refine pU 9 118 (hc := (any_of HT_.out Z5)) (h := ?_)
                      refine pU 10 119 (hc := (any_of HT_.out Z5)) (h := ?_)
                      refine take_ (i := 6) (N := some 115) (v := ?_) (a' := ?_) #[true, true, true, true, true, true, true, true, true, true, true, false, false, false] rfl rfl (take_ofW HT_.out HW_.out Z5) (fun _ _ _ h => h) (Or.inl ⟨by rfl, ?_⟩) hHeld ?_ ?_
                      rotate_left
                      ·rintro w' ⟨s0, s1⟩
                       go_simp
                       with_reducible rfl
                      rotate_left
                      ·simp only [Act.put, List.setIfInBounds_toArray, List.set_cons_zero, List.set_cons_succ, i64_w, i32_w]
                       rfl
                      refine take_ (i := 11) (N := some 120) (v := ?_) (a' := ?_) #[true, true, true, true, true, true, true, true, true, true, true, true, false, false] rfl rfl (take_ofW HT_.out HW_.out Z5) (fun _ _ _ h => h) (Or.inl ⟨by rfl, ?_⟩) hHeld ?_ ?_
                      rotate_left
                      ·rintro w' ⟨s0, s1⟩
                       go_simp
                       with_reducible rfl
                      rotate_left
                      ·simp only [Act.put, List.setIfInBounds_toArray, List.set_cons_zero, List.set_cons_succ, i64_w, i32_w]
                       rfl
                      refine pU 12 121 (hc := (any_of HT_.out Z5)) (h := ?_)
                      refine pU 13 122 (hc := (any_of HT_.out Z5)) (h := ?_)
                      refine done_ (done_of HT_.out Z5) ?_
                      try go_wp2
                      go_roundg k5
                      case measure => have := HJ4.out; have := HK2.out; have := HJ30.out; have := HK4.out; have := HK5.out; omega
                      case rel => exact ⟨(wrap64 (x11_4 + 1)), Z2, H', ⟨by have := HJ4.out; have := HK2.out; have := HJ30.out; have := HK4.out; have := HK5.out; omega⟩, ⟨Z13⟩, ⟨Z0⟩⟩
                    ·rw [if_neg c58] at H
                     exact absurd H Z19
                   ·rw [if_neg c57] at H
                    exact absurd H Z19
                  ·rw [if_neg c55] at H
                   exact absurd H Z19
                 ·rw [if_neg c54] at H
                  exact absurd H Z19
                ·replace c53 := Bool.eq_false_iff.mpr c53
                 subst c53
                 have H1 : (some false) = some r := by rw [if_neg (show ¬ (false = true) by decide)] at H; exact H
                 clear H
                 have H := H1
                 clear H1
                 obtain rfl := Option.some.inj H
                 try go_wp2
                 replace HO_7 := Aside0.mk (Kd.R_drew HO_7.out)
                 replace HB := Aside0.mk (below_drew1 HB.out)
                 refine start_ (n := 14) (S := fun w' => True) (ds := []) #[false, false, false, false, false, false, false, false, false, false, false, false, false, false] Z5 rfl rfl trivial (fun hHeld => ?_); refine with_tabW quoinlaw02_RunesSplits.tab21 quoinlaw02_RunesSplits.bits21 (fun HT_ HW_ => ?_)
                 generalize wr.drew = w62 at HO_7 HB hHeld ⊢
                 refine pU 0 109 (hc := (any_of HT_.out Z5)) (h := ?_)
                 refine pU 1 110 (hc := (any_of HT_.out Z5)) (h := ?_)
                 refine pU 2 111 (hc := (any_of HT_.out Z5)) (h := ?_)
                 refine pV 3 112 (hc := (any_of HT_.out Z5)) (h := ?_)
                 refine pV 4 113 (hc := (any_of HT_.out Z5)) (h := ?_)
                 refine pV 5 114 (hc := (any_of HT_.out Z5)) (h := ?_)
                 refine pV 6 115 (hc := (any_of HT_.out Z5)) (h := ?_)
                 refine pV 7 116 (hc := (any_of HT_.out Z5)) (h := ?_)
                 refine pV 8 117 (hc := (any_of HT_.out Z5)) (h := ?_)
                 refine pV 9 118 (hc := (any_of HT_.out Z5)) (h := ?_)
                 refine pV 10 119 (hc := (any_of HT_.out Z5)) (h := ?_)
                 refine pV 11 120 (hc := (any_of HT_.out Z5)) (h := ?_)
                 refine pV 12 121 (hc := (any_of HT_.out Z5)) (h := ?_)
                 refine pU 13 122 (hc := (any_of HT_.out Z5)) (h := ?_)
                 refine done_ (done_of HT_.out Z5) ?_
                 try go_wp2
                 go_ret
                 exact ⟨Z4, Z0⟩
            ·rw [if_neg c38] at H
             have c38b0 := decide_eq_false c38
             clear c38
             by_cases c63 : (t512.length : Int) ≥ 1
             ·rw [if_pos c63] at H
              have c63b0 : decide (1 ≤ (t512.length : Int)) = true := decide_eq_true c63
              have c63b1 : decide (1 ≤ t512.length) = true := decide_eq_true Z20
              clear c63
              by_cases c64 : 0 < (t512.length : Int)
              ·rw [if_pos c64] at H
               have c64b0 := decide_eq_true c64
               have c64b1 : decide (0 < t512.length) = true := decide_eq_true Z20
               clear c64
               by_cases c65 : (rd t512 0) = 0
               ·rw [if_pos c65] at H
                have c65b0 := e1 c65
                have c65b1 := e2 c65
                clear c65
                replace H := bS H
                obtain ⟨t525, A66, H⟩ := H
                try dsimp only at H
                obtain rfl := Option.some.inj H
                obtain ⟨Ao67, co67, eo67⟩ := Kd.R_slice HO_7.out
                subst eo67
                have p524 : 0 ≤ (0 : Int) := Z20
                have q524 : 0 < (t512.length : Int) := of_decide_eq_true Z1
                obtain ⟨ad524, e524, hx524_0⟩ := Kd.at_int (Kd.R_reads' HO_7.out).2.2 0 p524 q524
                cases e524
                have qi524 : (0 < t512.length) = True := eq_true Z20
                (try rw [show ((0 : Int)).toNat = 0 from rfl] at hx524_0)
                (try rw [Addr.add_zero'] at hx524_0)
                replace p524 := eq_true p524
                replace q524 := eq_true q524
                go_wp2_with (first | (go_at_call 16; (with_reducible refine (quoinlaw02_awake.calls A66.out).mono ?_); rintro e w68 ⟨rfl, hb⟩; replace HO_7 := Aside0.mk (Kd.R_below (kK HO_7) hb); replace HB := Aside0.mk (below_step zB hb); (try clear hb); (try clear hb2); (try clear hk); (try clear hi)))
                go_ret
                exact ⟨Z4, Z0⟩
               ·rw [if_neg c65] at H
                have c65b0 := e3 c65
                have c65b1 := e4 c65
                obtain rfl := Option.some.inj H
                obtain ⟨Ao69, co69, eo69⟩ := Kd.R_slice HO_7.out
                subst eo69
                have p524 : 0 ≤ (0 : Int) := Z20
                have q524 : 0 < (t512.length : Int) := of_decide_eq_true Z1
                obtain ⟨ad524, e524, hx524_0⟩ := Kd.at_int (Kd.R_reads' HO_7.out).2.2 0 p524 q524
                cases e524
                have qi524 : (0 < t512.length) = True := eq_true Z20
                (try rw [show ((0 : Int)).toNat = 0 from rfl] at hx524_0)
                (try rw [Addr.add_zero'] at hx524_0)
                replace p524 := eq_true p524
                replace q524 := eq_true q524
                go_wp2
                go_ret
                exact ⟨Z4, Z0⟩
              ·rw [if_neg c64] at H
               exact absurd H Z19
             ·rw [if_neg c63] at H
              have c63b0 : decide (1 ≤ (t512.length : Int)) = false := decide_eq_false c63
              have c63b1 : decide (1 ≤ t512.length) = false := decide_eq_false Z20
              clear c63
              obtain rfl := Option.some.inj H
              obtain ⟨Ao70, co70, eo70⟩ := Kd.R_slice HO_7.out
              subst eo70
              go_wp2
              go_ret
              exact ⟨Z4, Z0⟩
def quoinlaw02_RunesSplits.Pure : Prop := ∀ (l0 : List (List (S36))) (a1 : Int) (a2 : Int), l0.length ≤ 9223372036854775807 → l0.length * 24 ≤ 140737488351232 → (∀ x ∈ l0, x.length ≤ 9223372036854775807 ∧ ∀ y1 ∈ x, (Lit.int .i32 y1.f0).wf = true ∧ (Lit.int .i32 y1.f1).wf = true) → (Lit.int .i32 a1).wf = true → (Lit.int .i32 a2).wf = true → ∃ k, quoinlaw02_RunesSplits.f k l0 a1 a2 = some true
theorem quoinlaw02_RunesSplits.walk (P : quoinlaw02_RunesSplits.Pure) (A0 : Option Addr) (c0 : Nat) (l0 : List (List (S36))) (a1 : Int) (a2 : Int) (w : World) (hr0 : Kd.C (Kd.slice 36 k36) w A0 l0.length l0) (hc0 : l0.length ≤ c0) (w0_0 : l0.length ≤ 9223372036854775807) (w0_1 : l0.length * 24 ≤ 140737488351232) (w0_2 : (∀ x ∈ l0, x.length ≤ 9223372036854775807 ∧ ∀ y1 ∈ x, (Lit.int .i32 y1.f0).wf = true ∧ (Lit.int .i32 y1.f1).wf = true)) (w1_0 : (Lit.int .i32 a1).wf = true) (w2_0 : (Lit.int .i32 a2).wf = true) :
  Calls Tryd.prog 11 #[.slice A0 l0.length c0, .int .i32 a1, .int .i32 a2] w fun e w' => e = .returned (.bool true) ∧ Below w.heap.size w w' := by
 obtain ⟨k, h⟩ := P l0 a1 a2 w0_0 w0_1 w0_2 w1_0 w2_0
 refine (quoinlaw02_RunesSplits.calls k _ _ l0 a1 a2 true w hr0 hc0 h).mono ?_
 rintro e w' ⟨rfl, hd⟩
 exact ⟨rfl, hd⟩
def quoinlaw02_RunesSplits.PureU : Prop := ∀ (l0 : List (List (S36))) (a1 : Int) (a2 : Int), l0.length ≤ 9223372036854775807 → l0.length * 24 ≤ 140737488351232 → (∀ x ∈ l0, x.length ≤ 9223372036854775807 ∧ ∀ y1 ∈ x, (Lit.int .i32 y1.f0).wf = true ∧ (Lit.int .i32 y1.f1).wf = true) → (Lit.int .i32 a1).wf = true → (Lit.int .i32 a2).wf = true → (l0.map (fun z1 => ((z1.map (fun _ => (1 + 1 + 1))).sum + 1))).sum + 1 ≤ 1048576 → ∃ k, quoinlaw02_RunesSplits.f k l0 a1 a2 = some true
theorem quoinlaw02_RunesSplits.walkU (P : quoinlaw02_RunesSplits.PureU) (A0 : Option Addr) (c0 : Nat) (l0 : List (List (S36))) (a1 : Int) (a2 : Int) (w : World) (hr0 : Kd.C (Kd.slice 36 k36) w A0 l0.length l0) (hc0 : l0.length ≤ c0) (w0_0 : l0.length ≤ 9223372036854775807) (w0_1 : l0.length * 24 ≤ 140737488351232) (w0_2 : (∀ x ∈ l0, x.length ≤ 9223372036854775807 ∧ ∀ y1 ∈ x, (Lit.int .i32 y1.f0).wf = true ∧ (Lit.int .i32 y1.f1).wf = true)) (w1_0 : (Lit.int .i32 a1).wf = true) (w2_0 : (Lit.int .i32 a2).wf = true) (ub0 : (l0.map (fun z1 => ((z1.map (fun _ => (1 + 1 + 1))).sum + 1))).sum + 1 ≤ 1048576) :
  Calls Tryd.prog 11 #[.slice A0 l0.length c0, .int .i32 a1, .int .i32 a2] w fun e w' => e = .returned (.bool true) ∧ Below w.heap.size w w' := by
 obtain ⟨k, h⟩ := P l0 a1 a2 w0_0 w0_1 w0_2 w1_0 w2_0 ub0
 refine (quoinlaw02_RunesSplits.calls k _ _ l0 a1 a2 true w hr0 hc0 h).mono ?_
 rintro e w' ⟨rfl, hd⟩
 exact ⟨rfl, hd⟩
end Go.Proofs.YtfnkboilepgmoaaDoor.R
