import Derived.Test.YtfnkboilepgmoaaDoorIPre
import Derived.Test.YtfnkboilepgmoaaDoorIax0
import Derived.Test.YtfnkboilepgmoaaDoorIax3
import Derived.Test.YtfnkboilepgmoaaDoorIax5
namespace Go.Proofs.YtfnkboilepgmoaaDoor.R
open Go.RowKit Go.Proofs.YtfnkboilepgmoaaDoorW.PrintWords Go.Proofs.YtfnkboilepgmoaaDoorW.PrintLast Go.Proofs.YtfnkboilepgmoaaDoorW.PrintMore
attribute [local go_sem] max2_int min2_int max_two min_two max_three min_three max_four min_four
set_option linter.unusedVariables false
set_option linter.unusedSimpArgs false
mutual
def runes_both.l0 : Nat → List (S36) → List (S36) → List (S36) → Int → Int → Option ((List (S36)))
 | 0, _, _, _, _, _ => none
 | k + 1, x0, x1, x5, x6, x7 => if x6 < (x0.length : Int) then (runes_both.j1 k x0 x1 x5 x6 x7 (decide (x7 < (x1.length : Int)))) else (runes_both.j1 k x0 x1 x5 x6 x7 false)
def runes_both.j1 : Nat → List (S36) → List (S36) → List (S36) → Int → Int → Bool → Option ((List (S36)))
 | 0, _, _, _, _, _, _ => none
 | k + 1, x0, x1, x5, x6, x7, x19 => if x19 = true then (if 0 ≤ x6 then (if x6 < (x0.length : Int) then (if 0 ≤ x7 then (if x7 < (x1.length : Int) then (if (mx ((rd_T36 x0 x6).f0) ((rd_T36 x1 x7).f0)) ≤ (mn ((rd_T36 x0 x6).f1) ((rd_T36 x1 x7).f1)) then (if x5.length < 17592186044416 then ((some (x5 ++ [(⟨mx ((rd_T36 x0 x6).f0) ((rd_T36 x1 x7).f0), mn ((rd_T36 x0 x6).f1) ((rd_T36 x1 x7).f1)⟩ : S36)] : List (S36))).bind fun y300 => (if ((rd_T36 x0 x6).f1) < ((rd_T36 x1 x7).f1) then (runes_both.l0 k x0 x1 y300 (wrap64 (x6 + 1)) x7) else (runes_both.l0 k x0 x1 y300 x6 (wrap64 (x7 + 1))))) else (none)) else (if ((rd_T36 x0 x6).f1) < ((rd_T36 x1 x7).f1) then (runes_both.l0 k x0 x1 x5 (wrap64 (x6 + 1)) x7) else (runes_both.l0 k x0 x1 x5 x6 (wrap64 (x7 + 1))))) else (none)) else (none)) else (none)) else (none)) else (some x5)
end
def runes_both.f (k : Nat) (l0 : List (S36)) (l1 : List (S36)) : Option ((List (S36))) := runes_both.l0 k l0 l1 ([] : List (S36)) 0 0
set_option maxHeartbeats 8000000 in
set_option maxRecDepth 100000 in
theorem runes_both.calls (k : Nat) (A0 : Option Addr) (c0 : Nat) (l0 : List (S36)) (A1 : Option Addr) (c1 : Nat) (l1 : List (S36)) (r : List (S36)) (w : World) (hr0 : Kd.C k36 w A0 l0.length l0) (hc0 : l0.length ≤ c0) (hr1 : Kd.C k36 w A1 l1.length l1) (hc1 : l1.length ≤ c1) (h : runes_both.f k l0 l1 = some r) :
  Calls Tryd.prog 49 #[.slice A0 l0.length c0, .slice A1 l1.length c1] w fun e w' => ∃ v0_ : Value, e = .returned (v0_) ∧ Kd.R k36 36 w' w.heap.size (fun _ => True) v0_ r ∧ Below w.heap.size w w' := by
 have hu36 := Tryd.underlying36
 have HR0 := Aside0.mk hr0
 have HC0 := Aside0.mk hc0
 clear hr0 hc0
 have HR1 := Aside0.mk hr1
 have HC1 := Aside0.mk hc1
 clear hr1 hc1
 have HB := Aside0.mk (Below.refl w.heap.size w)
 have H : (runes_both.l0 k l0 l1 ([] : List (S36)) 0 0) = some r := h
 clear h
 have H' := Aside0.mk H
 clear H
 go_enter Tryd.func49, Tryd.ntmps49
 go_wp2
 repeat (go_quiet (fail); try go_wp2)
 go_loopg [5, 6, 7] k (fun kq v5 v6 v7 w' => ∃ (x5_1 : List (S36)) (x6_1 : Int) (x7_1 : Int), v6 = .int .i64 x6_1 ∧ v7 = .int .i64 x7_1 ∧ Aside0 (runes_both.l0 kq l0 l1 x5_1 x6_1 x7_1 = some r) ∧ Aside0 (kq ≤ k) ∧ Aside0 (Kd.R k36 36 w' w.heap.size (fun _ => True) v5 x5_1) ∧ Aside0 (Below w.heap.size w w'))
 case atStart => exact ⟨(([] : List (S36))), (0), (0), Z3, Z3, H', ⟨Nat.le_refl _⟩, ⟨Z11⟩, ⟨Z0⟩⟩
 case round =>
  clear H'
  try clear c1
  try clear p2
  obtain ⟨x5_1, x6_1, x7_1, rfl, rfl, HA, HK1, HO_5, HB⟩ := hrel
  cases gk with
  | zero => exact absurd HA.out (by simp [runes_both.l0])
  | succ k1 =>
   have H := HA.out
   clear HA
   simp only [runes_both.l0] at H
   have HC3 := Aside0.mk H
   clear H
   go_upto_region 3 with (fail)
   repeat (go_quiet (fail); go_upto_region 3 with (fail))
   go_cut [19] (fun v19 wc => ∃ (kq : Nat) (x19_2 : Bool), v19 = .bool x19_2 ∧ Aside0 (runes_both.j1 kq l0 l1 x5_1 x6_1 x7_1 x19_2 = some r) ∧ Aside0 (kq ≤ k1) ∧ Aside0 (Kd.R k36 36 wc w.heap.size (fun _ => True) u5 x5_1) ∧ Aside0 (Below w.heap.size w wc))
   case first =>
    have H := HC3.out
    clear HC3
    by_cases c4 : x6_1 < (l0.length : Int)
    ·rw [if_pos c4] at H
     have c4b0 := decide_eq_true c4
     clear c4
     (first | rw [c4b0] | (simp only [i64_w, i32_w]; rw [c4b0]) | skip)
     have H' := Aside0.mk H
     clear H
     go_wp2
     repeat (go_quiet (fail); try go_wp2)
     go_meet
     case rel => exact ⟨_, (decide (x7_1 < (l1.length : Int))), Z3, H', ⟨by have := HK1.out; first | omega | exact Nat.le_refl _⟩, ⟨Z31⟩, ⟨Z0⟩⟩
    ·rw [if_neg c4] at H
     have c4b0 := decide_eq_false c4
     clear c4
     (first | rw [c4b0] | (simp only [i64_w, i32_w]; rw [c4b0]) | skip)
     have H' := Aside0.mk H
     clear H
     go_wp2
     repeat (go_quiet (fail); try go_wp2)
     go_meet
     case rel => exact ⟨_, (false), Z3, H', ⟨by have := HK1.out; first | omega | exact Nat.le_refl _⟩, ⟨Z31⟩, ⟨Z0⟩⟩
   case rest =>
    clear HC3
    try clear c1
    try clear p2
    try clear c4
    try clear c4b0
    try clear p2
    obtain ⟨kq, x19_2, rfl, HA, HJ2, HO_5, HB⟩ := hcut
    cases kq with
    | zero => exact absurd HA.out (by simp [runes_both.j1])
    | succ kj2 =>
     have H := HA.out
     clear HA
     simp only [runes_both.j1] at H
     by_cases c5 : x19_2 = true
     ·subst c5
      have H1 : (if 0 ≤ x6_1 then (if x6_1 < (l0.length : Int) then (if 0 ≤ x7_1 then (if x7_1 < (l1.length : Int) then (if (mx ((rd_T36 l0 x6_1).f0) ((rd_T36 l1 x7_1).f0)) ≤ (mn ((rd_T36 l0 x6_1).f1) ((rd_T36 l1 x7_1).f1)) then (if x5_1.length < 17592186044416 then ((some (x5_1 ++ [(⟨mx ((rd_T36 l0 x6_1).f0) ((rd_T36 l1 x7_1).f0), mn ((rd_T36 l0 x6_1).f1) ((rd_T36 l1 x7_1).f1)⟩ : S36)] : List (S36))).bind fun y300 => (if ((rd_T36 l0 x6_1).f1) < ((rd_T36 l1 x7_1).f1) then (runes_both.l0 kj2 l0 l1 y300 (wrap64 (x6_1 + 1)) x7_1) else (runes_both.l0 kj2 l0 l1 y300 x6_1 (wrap64 (x7_1 + 1))))) else (none)) else (if ((rd_T36 l0 x6_1).f1) < ((rd_T36 l1 x7_1).f1) then (runes_both.l0 kj2 l0 l1 x5_1 (wrap64 (x6_1 + 1)) x7_1) else (runes_both.l0 kj2 l0 l1 x5_1 x6_1 (wrap64 (x7_1 + 1))))) else (none)) else (none)) else (none)) else (none)) = some r := by rw [if_pos rfl] at H; exact H
      clear H
      have H := H1
      clear H1
      by_cases c6 : 0 ≤ x6_1
      ·rw [if_pos c6] at H
       have c6b0 := decide_eq_true c6
       clear c6
       by_cases c7 : x6_1 < (l0.length : Int)
       ·rw [if_pos c7] at H
        have c7b0 := decide_eq_true c7
        clear c7
        by_cases c8 : 0 ≤ x7_1
        ·rw [if_pos c8] at H
         have c8b0 := decide_eq_true c8
         clear c8
         by_cases c9 : x7_1 < (l1.length : Int)
         ·rw [if_pos c9] at H
          have c9b0 := decide_eq_true c9
          clear c9
          obtain ⟨ji10, hji10⟩ : ∃ j_ : Int, (mx ((rd_T36 l0 x6_1).f0) ((rd_T36 l1 x7_1).f0)) = j_ := ⟨_, rfl⟩
          replace H : (if (ji10) ≤ (mn ((rd_T36 l0 x6_1).f1) ((rd_T36 l1 x7_1).f1)) then (if x5_1.length < 17592186044416 then ((some (x5_1 ++ [(⟨ji10, mn ((rd_T36 l0 x6_1).f1) ((rd_T36 l1 x7_1).f1)⟩ : S36)] : List (S36))).bind fun y300 => (if ((rd_T36 l0 x6_1).f1) < ((rd_T36 l1 x7_1).f1) then (runes_both.l0 kj2 l0 l1 y300 (wrap64 (x6_1 + 1)) x7_1) else (runes_both.l0 kj2 l0 l1 y300 x6_1 (wrap64 (x7_1 + 1))))) else (none)) else (if ((rd_T36 l0 x6_1).f1) < ((rd_T36 l1 x7_1).f1) then (runes_both.l0 kj2 l0 l1 x5_1 (wrap64 (x6_1 + 1)) x7_1) else (runes_both.l0 kj2 l0 l1 x5_1 x6_1 (wrap64 (x7_1 + 1))))) = some r := by first | (rw [hji10] at H; exact H) | (simp only [hji10] at H ⊢; exact H)
          have hji10_ : (if ((rd_T36 l0 x6_1).f0) < ((rd_T36 l1 x7_1).f0) then ((rd_T36 l1 x7_1).f0) else ((rd_T36 l0 x6_1).f0)) = ji10 := hji10
          obtain ⟨ji11, hji11⟩ : ∃ j_ : Int, (mn ((rd_T36 l0 x6_1).f1) ((rd_T36 l1 x7_1).f1)) = j_ := ⟨_, rfl⟩
          replace H : (if (ji10) ≤ (ji11) then (if x5_1.length < 17592186044416 then ((some (x5_1 ++ [(⟨ji10, ji11⟩ : S36)] : List (S36))).bind fun y300 => (if ((rd_T36 l0 x6_1).f1) < ((rd_T36 l1 x7_1).f1) then (runes_both.l0 kj2 l0 l1 y300 (wrap64 (x6_1 + 1)) x7_1) else (runes_both.l0 kj2 l0 l1 y300 x6_1 (wrap64 (x7_1 + 1))))) else (none)) else (if ((rd_T36 l0 x6_1).f1) < ((rd_T36 l1 x7_1).f1) then (runes_both.l0 kj2 l0 l1 x5_1 (wrap64 (x6_1 + 1)) x7_1) else (runes_both.l0 kj2 l0 l1 x5_1 x6_1 (wrap64 (x7_1 + 1))))) = some r := by first | (rw [hji11] at H; exact H) | (simp only [hji11] at H ⊢; exact H)
          have hji11_ : (if ((rd_T36 l1 x7_1).f1) < ((rd_T36 l0 x6_1).f1) then ((rd_T36 l1 x7_1).f1) else ((rd_T36 l0 x6_1).f1)) = ji11 := hji11
          by_cases c12 : (ji10) ≤ (ji11)
          ·rw [if_pos c12] at H
           have c12b0 := decide_eq_true c12
           clear c12
           by_cases c13 : x5_1.length < 17592186044416
           ·rw [if_pos c13] at H
            have LMc13 := Aside0.mk c13
            clear c13
            obtain ⟨y300, hy300⟩ : ∃ y_ : List (S36), y_ = (x5_1 ++ [(⟨ji10, ji11⟩ : S36)]) := ⟨_, rfl⟩
            replace H : (if ((rd_T36 l0 x6_1).f1) < ((rd_T36 l1 x7_1).f1) then (runes_both.l0 kj2 l0 l1 y300 (wrap64 (x6_1 + 1)) x7_1) else (runes_both.l0 kj2 l0 l1 y300 x6_1 (wrap64 (x7_1 + 1)))) = some r := by first | (rw [hy300]; with_reducible exact H) | (have H2_ := (Option.bind_some _ _).symm.trans H; rw [hy300]; with_reducible exact H2_) | (have H2_ := (Option.bind_some _ _).symm.trans H; with_reducible exact H2_) | with_reducible exact H | (rw [hy300]; exact H) | exact H
            have Ny300 := Aside0.mk hy300
            clear hy300
            by_cases c14 : ((rd_T36 l0 x6_1).f1) < ((rd_T36 l1 x7_1).f1)
            ·rw [if_pos c14] at H
             have c14b0 := decide_eq_true c14
             clear c14
             have H' := Aside0.mk H
             clear H
             have p296 : 0 ≤ (x6_1 : Int) := of_decide_eq_true Z1
             have q296 : x6_1 < (l0.length : Int) := of_decide_eq_true Z1
             obtain ⟨ad296, e296, hx296_0, hx296_1⟩ := at_T36 HR0.out x6_1 p296 q296
             cases e296
             replace hx296_0 := (HB.out.cell (World.block_lt_of_cell? w _ hx296_0)).trans hx296_0
             replace hx296_1 := (HB.out.cell (World.block_lt_of_cell? w _ hx296_1)).trans hx296_1
             replace p296 := eq_true p296
             replace q296 := eq_true q296
             have p297 : 0 ≤ (x7_1 : Int) := of_decide_eq_true Z1
             have q297 : x7_1 < (l1.length : Int) := of_decide_eq_true Z1
             obtain ⟨ad297, e297, hx297_0, hx297_1⟩ := at_T36 HR1.out x7_1 p297 q297
             cases e297
             replace hx297_0 := (HB.out.cell (World.block_lt_of_cell? w _ hx297_0)).trans hx297_0
             replace hx297_1 := (HB.out.cell (World.block_lt_of_cell? w _ hx297_1)).trans hx297_1
             replace p297 := eq_true p297
             replace q297 := eq_true q297
             have p298 : 0 ≤ (x6_1 : Int) := of_decide_eq_true Z1
             have q298 : x6_1 < (l0.length : Int) := of_decide_eq_true Z1
             obtain ⟨ad298, e298, hx298_0, hx298_1⟩ := at_T36 HR0.out x6_1 p298 q298
             obtain rfl : ad296 = ad298 := (by injection e298)
             replace hx298_0 := (HB.out.cell (World.block_lt_of_cell? w _ hx298_0)).trans hx298_0
             replace hx298_1 := (HB.out.cell (World.block_lt_of_cell? w _ hx298_1)).trans hx298_1
             replace p298 := eq_true p298
             replace q298 := eq_true q298
             have p299 : 0 ≤ (x7_1 : Int) := of_decide_eq_true Z1
             have q299 : x7_1 < (l1.length : Int) := of_decide_eq_true Z1
             obtain ⟨ad299, e299, hx299_0, hx299_1⟩ := at_T36 HR1.out x7_1 p299 q299
             obtain rfl : ad297 = ad299 := (by injection e299)
             replace hx299_0 := (HB.out.cell (World.block_lt_of_cell? w _ hx299_0)).trans hx299_0
             replace hx299_1 := (HB.out.cell (World.block_lt_of_cell? w _ hx299_1)).trans hx299_1
             replace p299 := eq_true p299
             replace q299 := eq_true q299
             go_wp2_with (first | ((with_reducible refine gate_builtin (b := .append) (xs := #[.tmp 45, .tmp 49]) rfl ?_); (try (refine gate_guard (by rfl) ?_; dsimp only)); at_builtin; refine Kd.R_append k36 (w0 := w) w.heap.size rfl (.tmp 45) (.tmp 49) 22 36 (.agg #[(.int .i32 0), (.int .i32 0)]) 8 rfl Tryd.underlying22 info36 rfl Z39 Z29 u5 x5_1 (⟨ji10, ji11⟩ : S36) [.int .i32 ji10, .int .i32 ji11] (fun _ => True) (fun _ => False) rfl rfl ?aP (fun _ hk => hk.elim) ?aF ?aO ?aB ?aS ?aL ?_; (case aP => exact k36_mkM _ _ _ (⟨ji10, ji11⟩ : S36)); (case aB => exact zB); (case aF => exact (fun _ _ => trivial)); (case aO => exact (kK HO_5)); (case aS => exact (below_size zB)); (case aL => have := LMc13.out; omega); intro v301 w15 ho hb hg hat; rw [← Ny300.out] at ho; have n0_ := Aside0.mk (hb); have n1_ := Aside0.mk (ho); clear HB; clear HO_5; have HB := n0_; have HO302 := n1_; clear n0_ n1_; clear ho hb hg hat; have p303 : 0 ≤ (x6_1 : Int) := of_decide_eq_true Z1; have q303 : x6_1 < (l0.length : Int) := of_decide_eq_true Z1; obtain ⟨ad303, e303, hx303_0, hx303_1⟩ := at_T36 HR0.out x6_1 p303 q303; obtain rfl : ad296 = ad303 := (by injection e303); replace hx303_0 := (HB.out.cell (World.block_lt_of_cell? w _ hx303_0)).trans hx303_0; replace hx303_1 := (HB.out.cell (World.block_lt_of_cell? w _ hx303_1)).trans hx303_1; replace p303 := eq_true p303; replace q303 := eq_true q303; have p304 : 0 ≤ (x7_1 : Int) := of_decide_eq_true Z1; have q304 : x7_1 < (l1.length : Int) := of_decide_eq_true Z1; obtain ⟨ad304, e304, hx304_0, hx304_1⟩ := at_T36 HR1.out x7_1 p304 q304; obtain rfl : ad297 = ad304 := (by injection e304); replace hx304_0 := (HB.out.cell (World.block_lt_of_cell? w _ hx304_0)).trans hx304_0; replace hx304_1 := (HB.out.cell (World.block_lt_of_cell? w _ hx304_1)).trans hx304_1; replace p304 := eq_true p304; replace q304 := eq_true q304))
             repeat (go_quiet (first | ((with_reducible refine gate_builtin (b := .append) (xs := #[.tmp 45, .tmp 49]) rfl ?_); (try (refine gate_guard (by rfl) ?_; dsimp only)); at_builtin; refine Kd.R_append k36 (w0 := w) w.heap.size rfl (.tmp 45) (.tmp 49) 22 36 (.agg #[(.int .i32 0), (.int .i32 0)]) 8 rfl Tryd.underlying22 info36 rfl Z39 Z29 u5 x5_1 (⟨ji10, ji11⟩ : S36) [.int .i32 ji10, .int .i32 ji11] (fun _ => True) (fun _ => False) rfl rfl ?aP (fun _ hk => hk.elim) ?aF ?aO ?aB ?aS ?aL ?_; (case aP => exact k36_mkM _ _ _ (⟨ji10, ji11⟩ : S36)); (case aB => exact zB); (case aF => exact (fun _ _ => trivial)); (case aO => exact (kK HO_5)); (case aS => exact (below_size zB)); (case aL => have := LMc13.out; omega); intro v301 w15 ho hb hg hat; rw [← Ny300.out] at ho; have n0_ := Aside0.mk (hb); have n1_ := Aside0.mk (ho); clear HB; clear HO_5; have HB := n0_; have HO302 := n1_; clear n0_ n1_; clear ho hb hg hat; have p303 : 0 ≤ (x6_1 : Int) := of_decide_eq_true Z1; have q303 : x6_1 < (l0.length : Int) := of_decide_eq_true Z1; obtain ⟨ad303, e303, hx303_0, hx303_1⟩ := at_T36 HR0.out x6_1 p303 q303; obtain rfl : ad296 = ad303 := (by injection e303); replace hx303_0 := (HB.out.cell (World.block_lt_of_cell? w _ hx303_0)).trans hx303_0; replace hx303_1 := (HB.out.cell (World.block_lt_of_cell? w _ hx303_1)).trans hx303_1; replace p303 := eq_true p303; replace q303 := eq_true q303; have p304 : 0 ≤ (x7_1 : Int) := of_decide_eq_true Z1; have q304 : x7_1 < (l1.length : Int) := of_decide_eq_true Z1; obtain ⟨ad304, e304, hx304_0, hx304_1⟩ := at_T36 HR1.out x7_1 p304 q304; obtain rfl : ad297 = ad304 := (by injection e304); replace hx304_0 := (HB.out.cell (World.block_lt_of_cell? w _ hx304_0)).trans hx304_0; replace hx304_1 := (HB.out.cell (World.block_lt_of_cell? w _ hx304_1)).trans hx304_1; replace p304 := eq_true p304; replace q304 := eq_true q304)); try go_wp2_with (first | ((with_reducible refine gate_builtin (b := .append) (xs := #[.tmp 45, .tmp 49]) rfl ?_); (try (refine gate_guard (by rfl) ?_; dsimp only)); at_builtin; refine Kd.R_append k36 (w0 := w) w.heap.size rfl (.tmp 45) (.tmp 49) 22 36 (.agg #[(.int .i32 0), (.int .i32 0)]) 8 rfl Tryd.underlying22 info36 rfl Z39 Z29 u5 x5_1 (⟨ji10, ji11⟩ : S36) [.int .i32 ji10, .int .i32 ji11] (fun _ => True) (fun _ => False) rfl rfl ?aP (fun _ hk => hk.elim) ?aF ?aO ?aB ?aS ?aL ?_; (case aP => exact k36_mkM _ _ _ (⟨ji10, ji11⟩ : S36)); (case aB => exact zB); (case aF => exact (fun _ _ => trivial)); (case aO => exact (kK HO_5)); (case aS => exact (below_size zB)); (case aL => have := LMc13.out; omega); intro v301 w15 ho hb hg hat; rw [← Ny300.out] at ho; have n0_ := Aside0.mk (hb); have n1_ := Aside0.mk (ho); clear HB; clear HO_5; have HB := n0_; have HO302 := n1_; clear n0_ n1_; clear ho hb hg hat; have p303 : 0 ≤ (x6_1 : Int) := of_decide_eq_true Z1; have q303 : x6_1 < (l0.length : Int) := of_decide_eq_true Z1; obtain ⟨ad303, e303, hx303_0, hx303_1⟩ := at_T36 HR0.out x6_1 p303 q303; obtain rfl : ad296 = ad303 := (by injection e303); replace hx303_0 := (HB.out.cell (World.block_lt_of_cell? w _ hx303_0)).trans hx303_0; replace hx303_1 := (HB.out.cell (World.block_lt_of_cell? w _ hx303_1)).trans hx303_1; replace p303 := eq_true p303; replace q303 := eq_true q303; have p304 : 0 ≤ (x7_1 : Int) := of_decide_eq_true Z1; have q304 : x7_1 < (l1.length : Int) := of_decide_eq_true Z1; obtain ⟨ad304, e304, hx304_0, hx304_1⟩ := at_T36 HR1.out x7_1 p304 q304; obtain rfl : ad297 = ad304 := (by injection e304); replace hx304_0 := (HB.out.cell (World.block_lt_of_cell? w _ hx304_0)).trans hx304_0; replace hx304_1 := (HB.out.cell (World.block_lt_of_cell? w _ hx304_1)).trans hx304_1; replace p304 := eq_true p304; replace q304 := eq_true q304)))
             go_roundg kj2
             case measure => have := HK1.out; have := HJ2.out; omega
             case rel => exact ⟨(y300), (wrap64 (x6_1 + 1)), (x7_1), Z3, Z3, H', ⟨by have := HK1.out; have := HJ2.out; omega⟩, ⟨by (with_reducible repeat (first | apply Kd.R_alloc | apply Kd.R_drewN | apply Kd.R_drew)); exact HO302.out⟩, ⟨Z0⟩⟩
            ·rw [if_neg c14] at H
             have c14b0 := decide_eq_false c14
             clear c14
             have H' := Aside0.mk H
             clear H
             have p296 : 0 ≤ (x6_1 : Int) := of_decide_eq_true Z1
             have q296 : x6_1 < (l0.length : Int) := of_decide_eq_true Z1
             obtain ⟨ad296, e296, hx296_0, hx296_1⟩ := at_T36 HR0.out x6_1 p296 q296
             cases e296
             replace hx296_0 := (HB.out.cell (World.block_lt_of_cell? w _ hx296_0)).trans hx296_0
             replace hx296_1 := (HB.out.cell (World.block_lt_of_cell? w _ hx296_1)).trans hx296_1
             replace p296 := eq_true p296
             replace q296 := eq_true q296
             have p297 : 0 ≤ (x7_1 : Int) := of_decide_eq_true Z1
             have q297 : x7_1 < (l1.length : Int) := of_decide_eq_true Z1
             obtain ⟨ad297, e297, hx297_0, hx297_1⟩ := at_T36 HR1.out x7_1 p297 q297
             cases e297
             replace hx297_0 := (HB.out.cell (World.block_lt_of_cell? w _ hx297_0)).trans hx297_0
             replace hx297_1 := (HB.out.cell (World.block_lt_of_cell? w _ hx297_1)).trans hx297_1
             replace p297 := eq_true p297
             replace q297 := eq_true q297
             have p298 : 0 ≤ (x6_1 : Int) := of_decide_eq_true Z1
             have q298 : x6_1 < (l0.length : Int) := of_decide_eq_true Z1
             obtain ⟨ad298, e298, hx298_0, hx298_1⟩ := at_T36 HR0.out x6_1 p298 q298
             obtain rfl : ad296 = ad298 := (by injection e298)
             replace hx298_0 := (HB.out.cell (World.block_lt_of_cell? w _ hx298_0)).trans hx298_0
             replace hx298_1 := (HB.out.cell (World.block_lt_of_cell? w _ hx298_1)).trans hx298_1
             replace p298 := eq_true p298
             replace q298 := eq_true q298
             have p299 : 0 ≤ (x7_1 : Int) := of_decide_eq_true Z1
             have q299 : x7_1 < (l1.length : Int) := of_decide_eq_true Z1
             obtain ⟨ad299, e299, hx299_0, hx299_1⟩ := at_T36 HR1.out x7_1 p299 q299
             obtain rfl : ad297 = ad299 := (by injection e299)
             replace hx299_0 := (HB.out.cell (World.block_lt_of_cell? w _ hx299_0)).trans hx299_0
             replace hx299_1 := (HB.out.cell (World.block_lt_of_cell? w _ hx299_1)).trans hx299_1
             replace p299 := eq_true p299
             replace q299 := eq_true q299
             go_wp2_with (first | ((with_reducible refine gate_builtin (b := .append) (xs := #[.tmp 45, .tmp 49]) rfl ?_); (try (refine gate_guard (by rfl) ?_; dsimp only)); at_builtin; refine Kd.R_append k36 (w0 := w) w.heap.size rfl (.tmp 45) (.tmp 49) 22 36 (.agg #[(.int .i32 0), (.int .i32 0)]) 8 rfl Tryd.underlying22 info36 rfl Z39 Z29 u5 x5_1 (⟨ji10, ji11⟩ : S36) [.int .i32 ji10, .int .i32 ji11] (fun _ => True) (fun _ => False) rfl rfl ?aP (fun _ hk => hk.elim) ?aF ?aO ?aB ?aS ?aL ?_; (case aP => exact k36_mkM _ _ _ (⟨ji10, ji11⟩ : S36)); (case aB => exact zB); (case aF => exact (fun _ _ => trivial)); (case aO => exact (kK HO_5)); (case aS => exact (below_size zB)); (case aL => have := LMc13.out; omega); intro v301 w16 ho hb hg hat; rw [← Ny300.out] at ho; have n0_ := Aside0.mk (hb); have n1_ := Aside0.mk (ho); clear HB; clear HO_5; have HB := n0_; have HO302 := n1_; clear n0_ n1_; clear ho hb hg hat; have p303 : 0 ≤ (x6_1 : Int) := of_decide_eq_true Z1; have q303 : x6_1 < (l0.length : Int) := of_decide_eq_true Z1; obtain ⟨ad303, e303, hx303_0, hx303_1⟩ := at_T36 HR0.out x6_1 p303 q303; obtain rfl : ad296 = ad303 := (by injection e303); replace hx303_0 := (HB.out.cell (World.block_lt_of_cell? w _ hx303_0)).trans hx303_0; replace hx303_1 := (HB.out.cell (World.block_lt_of_cell? w _ hx303_1)).trans hx303_1; replace p303 := eq_true p303; replace q303 := eq_true q303; have p304 : 0 ≤ (x7_1 : Int) := of_decide_eq_true Z1; have q304 : x7_1 < (l1.length : Int) := of_decide_eq_true Z1; obtain ⟨ad304, e304, hx304_0, hx304_1⟩ := at_T36 HR1.out x7_1 p304 q304; obtain rfl : ad297 = ad304 := (by injection e304); replace hx304_0 := (HB.out.cell (World.block_lt_of_cell? w _ hx304_0)).trans hx304_0; replace hx304_1 := (HB.out.cell (World.block_lt_of_cell? w _ hx304_1)).trans hx304_1; replace p304 := eq_true p304; replace q304 := eq_true q304))
             repeat (go_quiet (first | ((with_reducible refine gate_builtin (b := .append) (xs := #[.tmp 45, .tmp 49]) rfl ?_); (try (refine gate_guard (by rfl) ?_; dsimp only)); at_builtin; refine Kd.R_append k36 (w0 := w) w.heap.size rfl (.tmp 45) (.tmp 49) 22 36 (.agg #[(.int .i32 0), (.int .i32 0)]) 8 rfl Tryd.underlying22 info36 rfl Z39 Z29 u5 x5_1 (⟨ji10, ji11⟩ : S36) [.int .i32 ji10, .int .i32 ji11] (fun _ => True) (fun _ => False) rfl rfl ?aP (fun _ hk => hk.elim) ?aF ?aO ?aB ?aS ?aL ?_; (case aP => exact k36_mkM _ _ _ (⟨ji10, ji11⟩ : S36)); (case aB => exact zB); (case aF => exact (fun _ _ => trivial)); (case aO => exact (kK HO_5)); (case aS => exact (below_size zB)); (case aL => have := LMc13.out; omega); intro v301 w16 ho hb hg hat; rw [← Ny300.out] at ho; have n0_ := Aside0.mk (hb); have n1_ := Aside0.mk (ho); clear HB; clear HO_5; have HB := n0_; have HO302 := n1_; clear n0_ n1_; clear ho hb hg hat; have p303 : 0 ≤ (x6_1 : Int) := of_decide_eq_true Z1; have q303 : x6_1 < (l0.length : Int) := of_decide_eq_true Z1; obtain ⟨ad303, e303, hx303_0, hx303_1⟩ := at_T36 HR0.out x6_1 p303 q303; obtain rfl : ad296 = ad303 := (by injection e303); replace hx303_0 := (HB.out.cell (World.block_lt_of_cell? w _ hx303_0)).trans hx303_0; replace hx303_1 := (HB.out.cell (World.block_lt_of_cell? w _ hx303_1)).trans hx303_1; replace p303 := eq_true p303; replace q303 := eq_true q303; have p304 : 0 ≤ (x7_1 : Int) := of_decide_eq_true Z1; have q304 : x7_1 < (l1.length : Int) := of_decide_eq_true Z1; obtain ⟨ad304, e304, hx304_0, hx304_1⟩ := at_T36 HR1.out x7_1 p304 q304; obtain rfl : ad297 = ad304 := (by injection e304); replace hx304_0 := (HB.out.cell (World.block_lt_of_cell? w _ hx304_0)).trans hx304_0; replace hx304_1 := (HB.out.cell (World.block_lt_of_cell? w _ hx304_1)).trans hx304_1; replace p304 := eq_true p304; replace q304 := eq_true q304)); try go_wp2_with (first | ((with_reducible refine gate_builtin (b := .append) (xs := #[.tmp 45, .tmp 49]) rfl ?_); (try (refine gate_guard (by rfl) ?_; dsimp only)); at_builtin; refine Kd.R_append k36 (w0 := w) w.heap.size rfl (.tmp 45) (.tmp 49) 22 36 (.agg #[(.int .i32 0), (.int .i32 0)]) 8 rfl Tryd.underlying22 info36 rfl Z39 Z29 u5 x5_1 (⟨ji10, ji11⟩ : S36) [.int .i32 ji10, .int .i32 ji11] (fun _ => True) (fun _ => False) rfl rfl ?aP (fun _ hk => hk.elim) ?aF ?aO ?aB ?aS ?aL ?_; (case aP => exact k36_mkM _ _ _ (⟨ji10, ji11⟩ : S36)); (case aB => exact zB); (case aF => exact (fun _ _ => trivial)); (case aO => exact (kK HO_5)); (case aS => exact (below_size zB)); (case aL => have := LMc13.out; omega); intro v301 w16 ho hb hg hat; rw [← Ny300.out] at ho; have n0_ := Aside0.mk (hb); have n1_ := Aside0.mk (ho); clear HB; clear HO_5; have HB := n0_; have HO302 := n1_; clear n0_ n1_; clear ho hb hg hat; have p303 : 0 ≤ (x6_1 : Int) := of_decide_eq_true Z1; have q303 : x6_1 < (l0.length : Int) := of_decide_eq_true Z1; obtain ⟨ad303, e303, hx303_0, hx303_1⟩ := at_T36 HR0.out x6_1 p303 q303; obtain rfl : ad296 = ad303 := (by injection e303); replace hx303_0 := (HB.out.cell (World.block_lt_of_cell? w _ hx303_0)).trans hx303_0; replace hx303_1 := (HB.out.cell (World.block_lt_of_cell? w _ hx303_1)).trans hx303_1; replace p303 := eq_true p303; replace q303 := eq_true q303; have p304 : 0 ≤ (x7_1 : Int) := of_decide_eq_true Z1; have q304 : x7_1 < (l1.length : Int) := of_decide_eq_true Z1; obtain ⟨ad304, e304, hx304_0, hx304_1⟩ := at_T36 HR1.out x7_1 p304 q304; obtain rfl : ad297 = ad304 := (by injection e304); replace hx304_0 := (HB.out.cell (World.block_lt_of_cell? w _ hx304_0)).trans hx304_0; replace hx304_1 := (HB.out.cell (World.block_lt_of_cell? w _ hx304_1)).trans hx304_1; replace p304 := eq_true p304; replace q304 := eq_true q304)))
             go_roundg kj2
             case measure => have := HK1.out; have := HJ2.out; omega
             case rel => exact ⟨(y300), (x6_1), (wrap64 (x7_1 + 1)), Z3, Z3, H', ⟨by have := HK1.out; have := HJ2.out; omega⟩, ⟨by (with_reducible repeat (first | apply Kd.R_alloc | apply Kd.R_drewN | apply Kd.R_drew)); exact HO302.out⟩, ⟨Z0⟩⟩
           ·rw [if_neg c13] at H
            exact absurd H Z37
          ·rw [if_neg c12] at H
           have c12b0 := decide_eq_false c12
           clear c12
           by_cases c17 : ((rd_T36 l0 x6_1).f1) < ((rd_T36 l1 x7_1).f1)
           ·rw [if_pos c17] at H
            have c17b0 := decide_eq_true c17
            clear c17
            have H' := Aside0.mk H
            clear H
            have p296 : 0 ≤ (x6_1 : Int) := of_decide_eq_true Z1
            have q296 : x6_1 < (l0.length : Int) := of_decide_eq_true Z1
            obtain ⟨ad296, e296, hx296_0, hx296_1⟩ := at_T36 HR0.out x6_1 p296 q296
            cases e296
            replace hx296_0 := (HB.out.cell (World.block_lt_of_cell? w _ hx296_0)).trans hx296_0
            replace hx296_1 := (HB.out.cell (World.block_lt_of_cell? w _ hx296_1)).trans hx296_1
            replace p296 := eq_true p296
            replace q296 := eq_true q296
            have p297 : 0 ≤ (x7_1 : Int) := of_decide_eq_true Z1
            have q297 : x7_1 < (l1.length : Int) := of_decide_eq_true Z1
            obtain ⟨ad297, e297, hx297_0, hx297_1⟩ := at_T36 HR1.out x7_1 p297 q297
            cases e297
            replace hx297_0 := (HB.out.cell (World.block_lt_of_cell? w _ hx297_0)).trans hx297_0
            replace hx297_1 := (HB.out.cell (World.block_lt_of_cell? w _ hx297_1)).trans hx297_1
            replace p297 := eq_true p297
            replace q297 := eq_true q297
            have p298 : 0 ≤ (x6_1 : Int) := of_decide_eq_true Z1
            have q298 : x6_1 < (l0.length : Int) := of_decide_eq_true Z1
            obtain ⟨ad298, e298, hx298_0, hx298_1⟩ := at_T36 HR0.out x6_1 p298 q298
            obtain rfl : ad296 = ad298 := (by injection e298)
            replace hx298_0 := (HB.out.cell (World.block_lt_of_cell? w _ hx298_0)).trans hx298_0
            replace hx298_1 := (HB.out.cell (World.block_lt_of_cell? w _ hx298_1)).trans hx298_1
            replace p298 := eq_true p298
            replace q298 := eq_true q298
            have p299 : 0 ≤ (x7_1 : Int) := of_decide_eq_true Z1
            have q299 : x7_1 < (l1.length : Int) := of_decide_eq_true Z1
            obtain ⟨ad299, e299, hx299_0, hx299_1⟩ := at_T36 HR1.out x7_1 p299 q299
            obtain rfl : ad297 = ad299 := (by injection e299)
            replace hx299_0 := (HB.out.cell (World.block_lt_of_cell? w _ hx299_0)).trans hx299_0
            replace hx299_1 := (HB.out.cell (World.block_lt_of_cell? w _ hx299_1)).trans hx299_1
            replace p299 := eq_true p299
            replace q299 := eq_true q299
            have p305 : 0 ≤ (x6_1 : Int) := of_decide_eq_true Z1
            have q305 : x6_1 < (l0.length : Int) := of_decide_eq_true Z1
            obtain ⟨ad305, e305, hx305_0, hx305_1⟩ := at_T36 HR0.out x6_1 p305 q305
            obtain rfl : ad296 = ad305 := (by injection e305)
            replace hx305_0 := (HB.out.cell (World.block_lt_of_cell? w _ hx305_0)).trans hx305_0
            replace hx305_1 := (HB.out.cell (World.block_lt_of_cell? w _ hx305_1)).trans hx305_1
            replace p305 := eq_true p305
            replace q305 := eq_true q305
            have p306 : 0 ≤ (x7_1 : Int) := of_decide_eq_true Z1
            have q306 : x7_1 < (l1.length : Int) := of_decide_eq_true Z1
            obtain ⟨ad306, e306, hx306_0, hx306_1⟩ := at_T36 HR1.out x7_1 p306 q306
            obtain rfl : ad297 = ad306 := (by injection e306)
            replace hx306_0 := (HB.out.cell (World.block_lt_of_cell? w _ hx306_0)).trans hx306_0
            replace hx306_1 := (HB.out.cell (World.block_lt_of_cell? w _ hx306_1)).trans hx306_1
            replace p306 := eq_true p306
            replace q306 := eq_true q306
            go_wp2
            repeat (go_quiet (fail); try go_wp2)
            go_roundg kj2
            case measure => have := HK1.out; have := HJ2.out; omega
            case rel => exact ⟨(x5_1), (wrap64 (x6_1 + 1)), (x7_1), Z3, Z3, H', ⟨by have := HK1.out; have := HJ2.out; omega⟩, ⟨Z31⟩, ⟨Z0⟩⟩
           ·rw [if_neg c17] at H
            have c17b0 := decide_eq_false c17
            clear c17
            have H' := Aside0.mk H
            clear H
            have p296 : 0 ≤ (x6_1 : Int) := of_decide_eq_true Z1
            have q296 : x6_1 < (l0.length : Int) := of_decide_eq_true Z1
            obtain ⟨ad296, e296, hx296_0, hx296_1⟩ := at_T36 HR0.out x6_1 p296 q296
            cases e296
            replace hx296_0 := (HB.out.cell (World.block_lt_of_cell? w _ hx296_0)).trans hx296_0
            replace hx296_1 := (HB.out.cell (World.block_lt_of_cell? w _ hx296_1)).trans hx296_1
            replace p296 := eq_true p296
            replace q296 := eq_true q296
            have p297 : 0 ≤ (x7_1 : Int) := of_decide_eq_true Z1
            have q297 : x7_1 < (l1.length : Int) := of_decide_eq_true Z1
            obtain ⟨ad297, e297, hx297_0, hx297_1⟩ := at_T36 HR1.out x7_1 p297 q297
            cases e297
            replace hx297_0 := (HB.out.cell (World.block_lt_of_cell? w _ hx297_0)).trans hx297_0
            replace hx297_1 := (HB.out.cell (World.block_lt_of_cell? w _ hx297_1)).trans hx297_1
            replace p297 := eq_true p297
            replace q297 := eq_true q297
            have p298 : 0 ≤ (x6_1 : Int) := of_decide_eq_true Z1
            have q298 : x6_1 < (l0.length : Int) := of_decide_eq_true Z1
            obtain ⟨ad298, e298, hx298_0, hx298_1⟩ := at_T36 HR0.out x6_1 p298 q298
            obtain rfl : ad296 = ad298 := (by injection e298)
            replace hx298_0 := (HB.out.cell (World.block_lt_of_cell? w _ hx298_0)).trans hx298_0
            replace hx298_1 := (HB.out.cell (World.block_lt_of_cell? w _ hx298_1)).trans hx298_1
            replace p298 := eq_true p298
            replace q298 := eq_true q298
            have p299 : 0 ≤ (x7_1 : Int) := of_decide_eq_true Z1
            have q299 : x7_1 < (l1.length : Int) := of_decide_eq_true Z1
            obtain ⟨ad299, e299, hx299_0, hx299_1⟩ := at_T36 HR1.out x7_1 p299 q299
            obtain rfl : ad297 = ad299 := (by injection e299)
            replace hx299_0 := (HB.out.cell (World.block_lt_of_cell? w _ hx299_0)).trans hx299_0
            replace hx299_1 := (HB.out.cell (World.block_lt_of_cell? w _ hx299_1)).trans hx299_1
            replace p299 := eq_true p299
            replace q299 := eq_true q299
            have p305 : 0 ≤ (x6_1 : Int) := of_decide_eq_true Z1
            have q305 : x6_1 < (l0.length : Int) := of_decide_eq_true Z1
            obtain ⟨ad305, e305, hx305_0, hx305_1⟩ := at_T36 HR0.out x6_1 p305 q305
            obtain rfl : ad296 = ad305 := (by injection e305)
            replace hx305_0 := (HB.out.cell (World.block_lt_of_cell? w _ hx305_0)).trans hx305_0
            replace hx305_1 := (HB.out.cell (World.block_lt_of_cell? w _ hx305_1)).trans hx305_1
            replace p305 := eq_true p305
            replace q305 := eq_true q305
            have p306 : 0 ≤ (x7_1 : Int) := of_decide_eq_true Z1
            have q306 : x7_1 < (l1.length : Int) := of_decide_eq_true Z1
            obtain ⟨ad306, e306, hx306_0, hx306_1⟩ := at_T36 HR1.out x7_1 p306 q306
            obtain rfl : ad297 = ad306 := (by injection e306)
            replace hx306_0 := (HB.out.cell (World.block_lt_of_cell? w _ hx306_0)).trans hx306_0
            replace hx306_1 := (HB.out.cell (World.block_lt_of_cell? w _ hx306_1)).trans hx306_1
            replace p306 := eq_true p306
            replace q306 := eq_true q306
            go_wp2
            repeat (go_quiet (fail); try go_wp2)
            go_roundg kj2
            case measure => have := HK1.out; have := HJ2.out; omega
            case rel => exact ⟨(x5_1), (x6_1), (wrap64 (x7_1 + 1)), Z3, Z3, H', ⟨by have := HK1.out; have := HJ2.out; omega⟩, ⟨Z31⟩, ⟨Z0⟩⟩
         ·rw [if_neg c9] at H
          exact absurd H Z37
        ·rw [if_neg c8] at H
         exact absurd H Z37
       ·rw [if_neg c7] at H
        exact absurd H Z37
      ·rw [if_neg c6] at H
       exact absurd H Z37
     ·replace c5 := Bool.eq_false_iff.mpr c5
      subst c5
      have H1 : (some x5_1) = some r := by rw [if_neg (show ¬ (false = true) by decide)] at H; exact H
      clear H
      have H := H1
      clear H1
      obtain rfl := Option.some.inj H
      go_wp2
      repeat (go_quiet (fail); try go_wp2)
      go_ret
      exact ⟨_, Z4, Z31, Z0⟩
def runes_Meet.l0 : Nat → List (S36) → List (List (S36)) → Int → Int → Option ((List (S36)) × Int)
 | 0, _, _, _, _ => none
 | k + 1, x5, x15, x16, x17 => if x17 < x16 then (if 0 ≤ x17 then (if x17 < (x15.length : Int) then ((runes_both.f k x5 (rd_L2 x15 x17)).bind fun t312 => (runes_Meet.l0 k t312 x15 x16 (wrap64 (x17 + 1)))) else (none)) else (none)) else ((runes_made.f k x5).bind fun bt315 => (some (bt315.1, bt315.2)))
def runes_Meet.f (k : Nat) (l0 : List (List (S36))) : Option ((List (S36)) × Int) := (runes_checked.f k l0).bind fun t307 => (if t307 = 0 then (runes_Meet.l0 k (([(⟨0, 1114111⟩ : S36)] : List (S36))) l0 (l0.length : Int) 0) else (some (([] : List (S36)), t307)))
set_option maxHeartbeats 8000000 in
set_option maxRecDepth 100000 in
theorem runes_Meet.calls (k : Nat) (A0 : Option Addr) (c0 : Nat) (l0 : List (List (S36))) (r1 : List (S36)) (r2 : Int) (w : World) (hr0 : Kd.C (Kd.slice 36 k36) w A0 l0.length l0) (hc0 : l0.length ≤ c0) (h : runes_Meet.f k l0 = some (r1, r2)) :
  Calls Tryd.prog 25 #[.slice A0 l0.length c0] w fun e w' => ∃ v0_ : Value, e = .returned (.tuple #[v0_, .int .i64 r2]) ∧ Kd.R k36 36 w' w.heap.size (fun _ => True) v0_ r1 ∧ Below w.heap.size w w' := by
 have hu36 := Tryd.underlying36
 have HR0 := Aside0.mk hr0
 have HC0 := Aside0.mk hc0
 clear hr0 hc0
 have HB := Aside0.mk (Below.refl w.heap.size w)
 have H : ((runes_checked.f k l0).bind fun t307 => (if t307 = 0 then (runes_Meet.l0 k (([(⟨0, 1114111⟩ : S36)] : List (S36))) l0 (l0.length : Int) 0) else (some (([] : List (S36)), t307)))) = some (r1, r2) := h
 clear h
 replace H := Option.bind_eq_some_iff.mp H
 obtain ⟨t307, A20, H⟩ := H
 replace H : (if t307 = 0 then (runes_Meet.l0 k (([(⟨0, 1114111⟩ : S36)] : List (S36))) l0 (l0.length : Int) 0) else (some (([] : List (S36)), t307))) = some (r1, r2) := H
 have A2 := Aside0.mk A20
 clear A20
 by_cases c3 : t307 = 0
 ·rw [if_pos c3] at H
  have c3b0 := e1 c3
  have c3b1 := e2 c3
  clear c3
  obtain ⟨y308, hy308⟩ : ∃ y_ : List (S36), y_ = (([(⟨0, 1114111⟩ : S36)] : List (S36))) := ⟨_, rfl⟩
  replace H : (runes_Meet.l0 k y308 l0 (l0.length : Int) 0) = some (r1, r2) := by first | (rw [hy308]; with_reducible exact H) | (have H2_ := (Option.bind_some _ _).symm.trans H; rw [hy308]; with_reducible exact H2_) | (have H2_ := (Option.bind_some _ _).symm.trans H; with_reducible exact H2_) | with_reducible exact H | (rw [hy308]; exact H) | exact H
  have Ny308 := Aside0.mk hy308
  clear hy308
  have H' := Aside0.mk H
  clear H
  go_enter Tryd.func25, Tryd.ntmps25
  go_wp2_with (first | ((with_reducible refine gC 46 rfl ?_); refine goesL_ (some 9) rfl rfl Tryd.func46 Z22 rfl #[.slice A0 l0.length c0] rfl Z2 ?_; (with_reducible refine (runes_checked.calls k _ _ l0 t307 _ ?side1 ?side2 A2.out).mono ?_); (case side1 => repeat (first | exact HR0.out | (with_reducible refine Kd.C_alloc ?_ _) | (with_reducible refine Kd.C_drewN ?_ _) | (with_reducible refine Kd.C_drew ?_))); (case side2 => exact HC0.out); rintro e w4 ⟨rfl, hb⟩; refine ⟨_, rfl, ?_⟩; replace HB := Aside0.mk (below_step zB hb); (try clear hb); (try clear hb2); (try clear hk); (try clear hi)) | ((with_reducible refine gate_dst (N := 14) rfl ?_); refine Kd.R_lit k36 _ 36 ?hg (N := 14) ?hd (xs := ([(⟨0, 1114111⟩ : S36)] : List (S36))) (inner := [.int .i32 0, .int .i32 1114111]) (ok := fun _ => True) (okp := fun _ => True) ?hr ?hp (fun _ hk => hk) trivial (Below.refl _ _) (Nat.le_refl _) Z37 ?_; (case hd => rfl); (case hg => rfl); (case hr => first | (go_simp; done) | (go_simp; rfl)); (case hp => exact (Reps.c2 (show Kd.M k36 _ _ _ (⟨0, 1114111⟩ : S36) [.int .i32 0, .int .i32 1114111] from (k36_mkM _ _ _ (⟨0, 1114111⟩ : S36) )) (Reps.none _ _))); intro v309 w5 ho6 hb hg_ hnew_; clear hg_ hnew_; (first | rw [← Ny308.out] at ho6 | (simp only [Int.reduceToNat] at ho6; rw [← Ny308.out] at ho6)); have HO310 := Aside0.mk (Kd.R_lower ho6 (below_size zB)); replace HB := Aside0.mk (below_step zB hb); clear hb ho6))
  go_loopg [5, 17] k (fun kq v5 v17 w' => ∃ (x5_1 : List (S36)) (x17_1 : Int), v17 = .int .i64 x17_1 ∧ Aside0 (runes_Meet.l0 kq x5_1 l0 (l0.length : Int) x17_1 = some (r1, r2)) ∧ Aside0 (kq ≤ k) ∧ Aside0 (Kd.R k36 36 w' w.heap.size (fun _ => True) v5 x5_1) ∧ Aside0 (Below w.heap.size w w'))
  case atStart => exact ⟨(y308), (0), Z3, H', ⟨Nat.le_refl _⟩, ⟨by (with_reducible repeat (first | apply Kd.R_alloc | apply Kd.R_drewN | apply Kd.R_drew)); exact HO310.out⟩, ⟨Z0⟩⟩
  case round =>
   clear H'
   try clear c2
   try clear p2
   try clear c3
   try clear c3b0
   try clear c3b1
   try clear c4
   obtain ⟨x5_1, x17_1, rfl, HA, HK1, HO_5, HB⟩ := hrel
   cases gk with
   | zero => exact absurd HA.out (by simp [runes_Meet.l0])
   | succ k1 =>
    have H := HA.out
    clear HA
    simp only [runes_Meet.l0] at H
    by_cases c7 : x17_1 < (l0.length : Int)
    ·rw [if_pos c7] at H
     have c7b0 := decide_eq_true c7
     clear c7
     by_cases c8 : 0 ≤ x17_1
     ·rw [if_pos c8] at H
      have c8b0 := decide_eq_true c8
      clear c8
      by_cases c9 : x17_1 < (l0.length : Int)
      ·rw [if_pos c9] at H
       have c9b0 := decide_eq_true c9
       clear c9
       replace H := bS H
       obtain ⟨t312, A10, H⟩ := H
       try dsimp only at H
       have H' := Aside0.mk H
       clear H
       have p311 : 0 ≤ (x17_1 : Int) := of_decide_eq_true Z1
       have q311 : x17_1 < (l0.length : Int) := of_decide_eq_true Z1
       obtain ⟨ad311, A311_0, c311_0, e311, hx311_0, hl311_0, hi311_0⟩ := at_L2 HR0.out x17_1 p311 q311
       cases e311
       replace hx311_0 := (HB.out.cell (World.block_lt_of_cell? w _ hx311_0)).trans hx311_0
       have HR311_0 := Aside0.mk hi311_0
       have HC311_0 := Aside0.mk hl311_0
       clear hi311_0 hl311_0
       replace p311 := eq_true p311
       replace q311 := eq_true q311
       obtain ⟨Ao11, co11, eo11⟩ := Kd.R_slice HO_5.out
       subst eo11
       go_wp2_with (first | ((with_reducible refine gC 49 rfl ?_); refine goesL_ (some 23) rfl rfl Tryd.func49 Z22 rfl #[.slice Ao11 x5_1.length co11, .slice A311_0 (rd_L2 l0 x17_1).length c311_0] rfl Z2 ?_; (with_reducible refine (runes_both.calls k1 _ _ x5_1 _ _ (rd_L2 l0 x17_1) t312 _ ?side1 ?side2 ?side3 ?side4 A10.out).mono ?_); (case side1 => repeat (first | exact (Kd.R_reads' HO_5.out).2.2 | (with_reducible refine Kd.C_alloc ?_ _) | (with_reducible refine Kd.C_drewN ?_ _) | (with_reducible refine Kd.C_drew ?_))); (case side2 => exact (Kd.R_reads' HO_5.out).2.1); (case side3 => repeat (first | exact (Kd.C_below HR311_0.out HB.out) | (with_reducible refine Kd.C_alloc ?_ _) | (with_reducible refine Kd.C_drewN ?_ _) | (with_reducible refine Kd.C_drew ?_))); (case side4 => exact HC311_0.out); rintro e w12 ⟨v313, rfl, ho0, hb⟩; refine ⟨_, rfl, ?_⟩; have HO314 := Aside0.mk (Kd.R_lower (Kd.R_new' ho0 (Kd.R_lt (kK HO_5))) (below_size zB)); replace HO_5 := Aside0.mk (Kd.R_elder' (kK HO_5) (Kd.R_base ho0) hb); replace HB := Aside0.mk (below_step zB hb); (try clear hb); (try clear hb2); (try clear hk); (try clear hi); (try clear ho0)))
       go_roundg k1
       case measure => have := HK1.out; omega
       case rel => exact ⟨(t312), (wrap64 (x17_1 + 1)), Z3, H', ⟨Z28⟩, ⟨by (with_reducible repeat (first | apply Kd.R_alloc | apply Kd.R_drewN | apply Kd.R_drew)); exact Kd.R_mono HO314.out (fun _ hk => trivial)⟩, ⟨Z0⟩⟩
      ·rw [if_neg c9] at H
       exact absurd H Z37
     ·rw [if_neg c8] at H
      exact absurd H Z37
    ·rw [if_neg c7] at H
     have c7b0 := decide_eq_false c7
     clear c7
     replace H := bS H
     obtain ⟨⟨t315, t316⟩, A13, H⟩ := H
     try dsimp only at H
     simp only [Option.some.injEq, Prod.mk.injEq] at H
     obtain ⟨rfl, rfl⟩ := H
     obtain ⟨Ao14, co14, eo14⟩ := Kd.R_slice HO_5.out
     subst eo14
     go_wp2_with (first | ((with_reducible refine gC 41 rfl ?_); refine goesL_ (some 26) rfl rfl Tryd.func41 Z22 rfl #[.slice Ao14 x5_1.length co14] rfl Z2 ?_; (with_reducible refine (runes_made.calls k1 _ _ x5_1 t315 t316 _ ?side1 ?side2 A13.out).mono ?_); (case side1 => repeat (first | exact (Kd.R_reads' HO_5.out).2.2 | (with_reducible refine Kd.C_alloc ?_ _) | (with_reducible refine Kd.C_drewN ?_ _) | (with_reducible refine Kd.C_drew ?_))); (case side2 => exact (Kd.R_reads' HO_5.out).2.1); rintro e w15 ⟨v317, rfl, ho0, hb⟩; refine ⟨_, rfl, ?_⟩; have HO318 := Aside0.mk (Kd.R_lower (Kd.R_new' ho0 (Kd.R_lt (kK HO_5))) (below_size zB)); replace HO_5 := Aside0.mk (Kd.R_elder' (kK HO_5) (Kd.R_base ho0) hb); replace HB := Aside0.mk (below_step zB hb); (try clear hb); (try clear hb2); (try clear hk); (try clear hi); (try clear ho0)))
     go_ret2
     exact ⟨_, Z4, by (with_reducible repeat (first | apply Kd.R_alloc | apply Kd.R_drewN | apply Kd.R_drew)); exact Kd.R_mono HO318.out (fun _ hk => trivial), Z0⟩
 ·rw [if_neg c3] at H
  have c3b0 := e3 c3
  have c3b1 := e4 c3
  simp only [Option.some.injEq, Prod.mk.injEq] at H
  obtain ⟨rfl, rfl⟩ := H
  go_enter Tryd.func25, Tryd.ntmps25
  go_wp2_with (first | ((with_reducible refine gC 46 rfl ?_); refine goesL_ (some 9) rfl rfl Tryd.func46 Z22 rfl #[.slice A0 l0.length c0] rfl Z2 ?_; (with_reducible refine (runes_checked.calls k _ _ l0 t307 _ ?side1 ?side2 A2.out).mono ?_); (case side1 => repeat (first | exact HR0.out | (with_reducible refine Kd.C_alloc ?_ _) | (with_reducible refine Kd.C_drewN ?_ _) | (with_reducible refine Kd.C_drew ?_))); (case side2 => exact HC0.out); rintro e w16 ⟨rfl, hb⟩; refine ⟨_, rfl, ?_⟩; replace HB := Aside0.mk (below_step zB hb); (try clear hb); (try clear hb2); (try clear hk); (try clear hi)))
  go_ret2
  exact ⟨_, Z4, Z11, Z0⟩
def quoinref02_Meet.f (k : Nat) (l0 : List (List (S36))) : Option ((List (S36)) × Int) := (quoinref02_checked.f k l0).bind fun t319 => (if t319 = 0 then ((quoinref02_made.f k l0 1).bind fun bt320 => (some (bt320.1, bt320.2))) else (some (([] : List (S36)), t319)))
set_option maxHeartbeats 8000000 in
set_option maxRecDepth 100000 in
theorem quoinref02_Meet.calls (k : Nat) (A0 : Option Addr) (c0 : Nat) (l0 : List (List (S36))) (r1 : List (S36)) (r2 : Int) (w : World) (hr0 : Kd.C (Kd.slice 36 k36) w A0 l0.length l0) (hc0 : l0.length ≤ c0) (h : quoinref02_Meet.f k l0 = some (r1, r2)) :
  Calls Tryd.prog 26 #[.slice A0 l0.length c0] w fun e w' => ∃ v0_ : Value, e = .returned (.tuple #[v0_, .int .i64 r2]) ∧ Kd.R k36 36 w' w.heap.size (fun _ => True) v0_ r1 ∧ Below w.heap.size w w' := by
 have HR0 := Aside0.mk hr0
 have HC0 := Aside0.mk hc0
 clear hr0 hc0
 have HB := Aside0.mk (Below.refl w.heap.size w)
 have H : ((quoinref02_checked.f k l0).bind fun t319 => (if t319 = 0 then ((quoinref02_made.f k l0 1).bind fun bt320 => (some (bt320.1, bt320.2))) else (some (([] : List (S36)), t319)))) = some (r1, r2) := h
 clear h
 replace H := bS H
 obtain ⟨t319, A2, H⟩ := H
 try dsimp only at H
 by_cases c3 : t319 = 0
 ·rw [if_pos c3] at H
  have c3b0 := e1 c3
  have c3b1 := e2 c3
  clear c3
  replace H := bS H
  obtain ⟨⟨t320, t321⟩, A4, H⟩ := H
  try dsimp only at H
  simp only [Option.some.injEq, Prod.mk.injEq] at H
  obtain ⟨rfl, rfl⟩ := H
  go_enter Tryd.func26, Tryd.ntmps26
  go_wp2_with (first | ((with_reducible refine gC 48 rfl ?_); refine goesL_ (some 6) rfl rfl Tryd.func48 Z22 rfl #[.slice A0 l0.length c0] rfl Z2 ?_; (with_reducible refine (quoinref02_checked.calls k _ _ l0 t319 _ ?side1 ?side2 A2.out).mono ?_); (case side1 => repeat (first | exact HR0.out | (with_reducible refine Kd.C_alloc ?_ _) | (with_reducible refine Kd.C_drewN ?_ _) | (with_reducible refine Kd.C_drew ?_))); (case side2 => exact HC0.out); rintro e w' ⟨rfl, ⟨nd, rfl⟩⟩; refine ⟨_, rfl, ?_⟩) | ((with_reducible refine gC 42 rfl ?_); refine goesL_ (some 11) rfl rfl Tryd.func42 Z22 rfl #[.slice A0 l0.length c0, .int .i64 1] rfl Z2 ?_; (with_reducible refine (quoinref02_made.calls k _ _ l0 1 t320 t321 _ ?side1 ?side2 A4.out).mono ?_); (case side1 => repeat (first | exact HR0.out | (with_reducible refine Kd.C_alloc ?_ _) | (with_reducible refine Kd.C_drewN ?_ _) | (with_reducible refine Kd.C_drew ?_))); (case side2 => exact HC0.out); rintro e w5 ⟨v322, rfl, ho0, hb⟩; refine ⟨_, rfl, ?_⟩; have HO323 := Aside0.mk (Kd.R_lower ho0 (below_size zB)); replace HB := Aside0.mk (below_step zB hb); (try clear hb); (try clear hb2); (try clear hk); (try clear hi); (try clear ho0)))
  go_ret2
  exact ⟨_, Z4, by (with_reducible repeat (first | apply Kd.R_alloc | apply Kd.R_drewN | apply Kd.R_drew)); exact HO323.out, Z0⟩
 ·rw [if_neg c3] at H
  have c3b0 := e3 c3
  have c3b1 := e4 c3
  simp only [Option.some.injEq, Prod.mk.injEq] at H
  obtain ⟨rfl, rfl⟩ := H
  go_enter Tryd.func26, Tryd.ntmps26
  go_wp2_with (first | ((with_reducible refine gC 48 rfl ?_); refine goesL_ (some 6) rfl rfl Tryd.func48 Z22 rfl #[.slice A0 l0.length c0] rfl Z2 ?_; (with_reducible refine (quoinref02_checked.calls k _ _ l0 t319 _ ?side1 ?side2 A2.out).mono ?_); (case side1 => repeat (first | exact HR0.out | (with_reducible refine Kd.C_alloc ?_ _) | (with_reducible refine Kd.C_drewN ?_ _) | (with_reducible refine Kd.C_drew ?_))); (case side2 => exact HC0.out); rintro e w' ⟨rfl, ⟨nd, rfl⟩⟩; refine ⟨_, rfl, ?_⟩))
  go_ret2
  exact ⟨_, Z4, Z11, Z0⟩
def runes_not.l0 : Nat → List (S36) → Int → List (S36) → Int → Int → Option ((List (S36)))
 | 0, _, _, _, _, _ => none
 | k + 1, x3, x4, x7, x8, x9 => if x9 < x8 then (if 0 ≤ x9 then (if x9 < (x7.length : Int) then (if ((rd_T36 x7 x9).f0) > x4 then (if x3.length < 17592186044416 then (runes_not.l0 k (x3 ++ [(⟨x4, wrap32 (((rd_T36 x7 x9).f0) - 1)⟩ : S36)]) (wrap32 (((rd_T36 x7 x9).f1) + 1)) x7 x8 (wrap64 (x9 + 1))) else (none)) else (runes_not.l0 k x3 (wrap32 (((rd_T36 x7 x9).f1) + 1)) x7 x8 (wrap64 (x9 + 1)))) else (none)) else (none)) else (if x4 ≤ 1114111 then (if x3.length < 17592186044416 then (some (x3 ++ [(⟨x4, 1114111⟩ : S36)])) else (none)) else (some x3))
def runes_not.f (k : Nat) (l0 : List (S36)) : Option ((List (S36))) := runes_not.l0 k ([] : List (S36)) 0 l0 (l0.length : Int) 0
set_option maxHeartbeats 8000000 in
set_option maxRecDepth 100000 in
theorem runes_not.calls (k : Nat) (A0 : Option Addr) (c0 : Nat) (l0 : List (S36)) (r : List (S36)) (w : World) (hr0 : Kd.C k36 w A0 l0.length l0) (hc0 : l0.length ≤ c0) (h : runes_not.f k l0 = some r) :
  Calls Tryd.prog 50 #[.slice A0 l0.length c0] w fun e w' => ∃ v0_ : Value, e = .returned (v0_) ∧ Kd.R k36 36 w' w.heap.size (fun _ => True) v0_ r ∧ Below w.heap.size w w' := by
 have hu36 := Tryd.underlying36
 have HR0 := Aside0.mk hr0
 have HC0 := Aside0.mk hc0
 clear hr0 hc0
 have HB := Aside0.mk (Below.refl w.heap.size w)
 have H : (runes_not.l0 k ([] : List (S36)) 0 l0 (l0.length : Int) 0) = some r := h
 clear h
 have H' := Aside0.mk H
 clear H
 go_enter Tryd.func50, Tryd.ntmps50
 go_wp2
 go_loopg [3, 4, 9] k (fun kq v3 v4 v9 w' => ∃ (x3_1 : List (S36)) (x4_1 : Int) (x9_1 : Int), v4 = .int .i32 x4_1 ∧ v9 = .int .i64 x9_1 ∧ Aside0 (runes_not.l0 kq x3_1 x4_1 l0 (l0.length : Int) x9_1 = some r) ∧ Aside0 (kq ≤ k) ∧ Aside0 (Kd.R k36 36 w' w.heap.size (fun _ => True) v3 x3_1) ∧ Aside0 (Below w.heap.size w w'))
 case atStart => exact ⟨(([] : List (S36))), (0), (0), Z3, Z3, H', ⟨Nat.le_refl _⟩, ⟨Z11⟩, ⟨Z0⟩⟩
 case round =>
  clear H'
  obtain ⟨x3_1, x4_1, x9_1, rfl, rfl, HA, HK1, HO_3, HB⟩ := hrel
  cases gk with
  | zero => exact absurd HA.out (by simp [runes_not.l0])
  | succ k1 =>
   have H := HA.out
   clear HA
   simp only [runes_not.l0] at H
   by_cases c2 : x9_1 < (l0.length : Int)
   ·rw [if_pos c2] at H
    have c2b0 := decide_eq_true c2
    clear c2
    by_cases c3 : 0 ≤ x9_1
    ·rw [if_pos c3] at H
     have c3b0 := decide_eq_true c3
     clear c3
     by_cases c4 : x9_1 < (l0.length : Int)
     ·rw [if_pos c4] at H
      have c4b0 := decide_eq_true c4
      clear c4
      by_cases c5 : ((rd_T36 l0 x9_1).f0) > x4_1
      ·rw [if_pos c5] at H
       have c5b0 : decide (x4_1 < ((rd_T36 l0 x9_1).f0)) = true := decide_eq_true c5
       clear c5
       by_cases c6 : x3_1.length < 17592186044416
       ·rw [if_pos c6] at H
        have LMc6 := Aside0.mk c6
        clear c6
        obtain ⟨y345, hy345⟩ : ∃ y_ : List (S36), y_ = (x3_1 ++ [(⟨x4_1, wrap32 (((rd_T36 l0 x9_1).f0) - 1)⟩ : S36)]) := ⟨_, rfl⟩
        replace H : (runes_not.l0 k1 y345 (wrap32 (((rd_T36 l0 x9_1).f1) + 1)) l0 (l0.length : Int) (wrap64 (x9_1 + 1))) = some r := by first | (rw [hy345]; with_reducible exact H) | (have H2_ := (Option.bind_some _ _).symm.trans H; rw [hy345]; with_reducible exact H2_) | (have H2_ := (Option.bind_some _ _).symm.trans H; with_reducible exact H2_) | with_reducible exact H | (rw [hy345]; exact H) | exact H
        have Ny345 := Aside0.mk hy345
        clear hy345
        have H' := Aside0.mk H
        clear H
        have p343 : 0 ≤ (x9_1 : Int) := of_decide_eq_true Z1
        have q343 : x9_1 < (l0.length : Int) := of_decide_eq_true Z1
        obtain ⟨ad343, e343, hx343_0, hx343_1⟩ := at_T36 HR0.out x9_1 p343 q343
        cases e343
        replace hx343_0 := (HB.out.cell (World.block_lt_of_cell? w _ hx343_0)).trans hx343_0
        replace hx343_1 := (HB.out.cell (World.block_lt_of_cell? w _ hx343_1)).trans hx343_1
        replace p343 := eq_true p343
        replace q343 := eq_true q343
        go_wp2_with (first | ((with_reducible refine gate_dst (N := 6) rfl ?_); refine box_event ?hg (N := 6) ?hd (cs := #[.int .i32 0, .int .i32 0]) (t := 36) ?hr ?_; (case hd => rfl); (case hg => rfl); (case hr => first | (go_simp; done) | (go_simp; rfl)); intro gb344 hg w7 hbox hb; replace HO_3 := Aside0.mk (Kd.R_below (Kd.R_elderB (kK HO_3) gb344 (Nat.le_of_eq hg.symm)) hb); have BK344 := Aside0.mk (hbox); have GW344 := gE hg zB; have GE344 := gE hg zB; replace HB := Aside0.mk (below_step zB hb); clear hb hbox hg; have hcz8_0 := bC BK344 0 (.int .i32 0); have hcz8_1 := bC BK344 1 (.int .i32 0); have hfz8_0 := blk_frozen BK344.out 0; have hfz8_1 := blk_frozen BK344.out 1) | ((with_reducible refine gate_builtin (b := .append) (xs := #[.tmp 17, .tmp 23]) rfl ?_); at_builtin; refine Kd.R_append k36 (w0 := w) w.heap.size rfl (.tmp 17) (.tmp 23) 22 36 (.agg #[(.int .i32 0), (.int .i32 0)]) 8 rfl Tryd.underlying22 info36 rfl Z39 Z29 u3 x3_1 (⟨x4_1, wrap32 (((rd_T36 l0 x9_1).f0) - 1)⟩ : S36) [.int .i32 x4_1, .int .i32 (wrap32 (((rd_T36 l0 x9_1).f0) - 1))] (fun k_ => k_ ≠ gb344) (fun _ => False) rfl (by first | (go_simp; done) | (go_simp; rfl)) ?aP (fun _ hk => hk.elim) ?aF ?aO ?aB ?aS ?aL ?_; (case aP => exact k36_mkM _ _ _ (⟨x4_1, wrap32 (((rd_T36 l0 x9_1).f0) - 1)⟩ : S36)); (case aB => exact zB); (case aF => exact (fun k_ hk => Kd.freshB (g := gb344) (o := .cells #[.int .i32 ((rd_T36 l0 x9_1).f0), .int .i32 ((rd_T36 l0 x9_1).f1)] 36 (0, 0)) (by (with_reducible repeat (first | refine blk_drewN ?_ _ | refine blk_drew ?_ | refine blk_alloc ?_ _)); refine blk_put (cs := #[.int .i32 ((rd_T36 l0 x9_1).f0), .int .i32 0]) ?_ 1 _ rfl; (with_reducible repeat (first | refine blk_drewN ?_ _ | refine blk_drew ?_ | refine blk_alloc ?_ _)); refine blk_put (cs := #[.int .i32 0, .int .i32 0]) ?_ 0 _ rfl; (with_reducible repeat (first | refine blk_drewN ?_ _ | refine blk_drew ?_ | refine blk_alloc ?_ _)); exact BK344.out) k_ hk)); (case aO => exact (by (with_reducible repeat (first | apply Kd.R_alloc | apply Kd.R_drewN | apply Kd.R_drew)); exact Kd.R_mono (Kd.R_far (p := ⟨gb344, 1, none⟩) (Kd.R_far (p := ⟨gb344, 0, none⟩) (Kd.R_mono HO_3.out (fun k_ hk => (⟨hk, hk.2⟩ : _ ∧ k_ ≠ gb344))) (fun _ hk => hk.2) (.int .i32 ((rd_T36 l0 x9_1).f0))) (fun _ hk => hk.2) (.int .i32 ((rd_T36 l0 x9_1).f1))) (fun _ hk => hk.1.2))); (case aS => exact (below_size zB)); (case aL => have := LMc6.out; omega); intro v346 w9 ho hb hg hat; rw [← Ny345.out] at ho; have n0_ := Aside0.mk (blk_grown (g := gb344) (o := .cells #[.int .i32 ((rd_T36 l0 x9_1).f0), .int .i32 ((rd_T36 l0 x9_1).f1)] 36 (0, 0)) (by (with_reducible repeat (first | refine blk_drewN ?_ _ | refine blk_drew ?_ | refine blk_alloc ?_ _)); refine blk_put (cs := #[.int .i32 ((rd_T36 l0 x9_1).f0), .int .i32 0]) ?_ 1 _ rfl; (with_reducible repeat (first | refine blk_drewN ?_ _ | refine blk_drew ?_ | refine blk_alloc ?_ _)); refine blk_put (cs := #[.int .i32 0, .int .i32 0]) ?_ 0 _ rfl; (with_reducible repeat (first | refine blk_drewN ?_ _ | refine blk_drew ?_ | refine blk_alloc ?_ _)); exact BK344.out) hg (Kd.R_away HO_3.out (fun _ hk => hk.2))); have n1_ := Aside0.mk (hb); have n2_ := Aside0.mk (ho); clear BK344; clear HB; clear HO_3; have BK344 := n0_; have HB := n1_; have HO347 := n2_; clear n0_ n1_ n2_; clear ho hb hg hat; have hcz10_0 := bC BK344 0 (.int .i32 ((rd_T36 l0 x9_1).f0)); have hcz10_1 := bC BK344 1 (.int .i32 ((rd_T36 l0 x9_1).f1)); have hfz10_0 := blk_frozen BK344.out 0; have hfz10_1 := blk_frozen BK344.out 1))
        go_roundg k1
        case measure => have := HK1.out; omega
        case rel => exact ⟨(y345), (wrap32 (((rd_T36 l0 x9_1).f1) + 1)), (wrap64 (x9_1 + 1)), Z3, Z3, H', ⟨Z28⟩, ⟨by (with_reducible repeat (first | apply Kd.R_alloc | apply Kd.R_drewN | apply Kd.R_drew)); exact Kd.R_mono HO347.out (fun _ hk => trivial)⟩, ⟨Z0⟩⟩
       ·rw [if_neg c6] at H
        exact absurd H Z37
      ·rw [if_neg c5] at H
       have c5b0 : decide (x4_1 < ((rd_T36 l0 x9_1).f0)) = false := decide_eq_false c5
       clear c5
       have H' := Aside0.mk H
       clear H
       have p343 : 0 ≤ (x9_1 : Int) := of_decide_eq_true Z1
       have q343 : x9_1 < (l0.length : Int) := of_decide_eq_true Z1
       obtain ⟨ad343, e343, hx343_0, hx343_1⟩ := at_T36 HR0.out x9_1 p343 q343
       cases e343
       replace hx343_0 := (HB.out.cell (World.block_lt_of_cell? w _ hx343_0)).trans hx343_0
       replace hx343_1 := (HB.out.cell (World.block_lt_of_cell? w _ hx343_1)).trans hx343_1
       replace p343 := eq_true p343
       replace q343 := eq_true q343
       go_wp2_with (first | ((with_reducible refine gate_dst (N := 6) rfl ?_); refine box_event ?hg (N := 6) ?hd (cs := #[.int .i32 0, .int .i32 0]) (t := 36) ?hr ?_; (case hd => rfl); (case hg => rfl); (case hr => first | (go_simp; done) | (go_simp; rfl)); intro gb344 hg w11 hbox hb; replace HO_3 := Aside0.mk (Kd.R_below (Kd.R_elderB (kK HO_3) gb344 (Nat.le_of_eq hg.symm)) hb); have BK344 := Aside0.mk (hbox); have GW344 := gE hg zB; have GE344 := gE hg zB; replace HB := Aside0.mk (below_step zB hb); clear hb hbox hg; have hcz12_0 := bC BK344 0 (.int .i32 0); have hcz12_1 := bC BK344 1 (.int .i32 0); have hfz12_0 := blk_frozen BK344.out 0; have hfz12_1 := blk_frozen BK344.out 1))
       go_roundg k1
       case measure => have := HK1.out; omega
       case rel => exact ⟨(x3_1), (wrap32 (((rd_T36 l0 x9_1).f1) + 1)), (wrap64 (x9_1 + 1)), Z3, Z3, H', ⟨Z28⟩, ⟨by (with_reducible repeat (first | apply Kd.R_alloc | apply Kd.R_drewN | apply Kd.R_drew)); exact Kd.R_mono (Kd.R_far (p := ⟨gb344, 1, none⟩) (Kd.R_far (p := ⟨gb344, 0, none⟩) (Kd.R_mono HO_3.out (fun k_ hk => (⟨hk, hk.2⟩ : _ ∧ k_ ≠ gb344))) (fun _ hk => hk.2) (.int .i32 ((rd_T36 l0 x9_1).f0))) (fun _ hk => hk.2) (.int .i32 ((rd_T36 l0 x9_1).f1))) (fun _ hk => trivial)⟩, ⟨Z0⟩⟩
     ·rw [if_neg c4] at H
      exact absurd H Z37
    ·rw [if_neg c3] at H
     exact absurd H Z37
   ·rw [if_neg c2] at H
    have c2b0 := decide_eq_false c2
    clear c2
    by_cases c13 : x4_1 ≤ 1114111
    ·rw [if_pos c13] at H
     have c13b0 := decide_eq_true c13
     clear c13
     by_cases c14 : x3_1.length < 17592186044416
     ·rw [if_pos c14] at H
      have LMc14 := Aside0.mk c14
      clear c14
      obtain ⟨y348, hy348⟩ : ∃ y_ : List (S36), y_ = (x3_1 ++ [(⟨x4_1, 1114111⟩ : S36)]) := ⟨_, rfl⟩
      replace H : (some y348) = some r := by first | (rw [hy348]; with_reducible exact H) | (have H2_ := (Option.bind_some _ _).symm.trans H; rw [hy348]; with_reducible exact H2_) | (have H2_ := (Option.bind_some _ _).symm.trans H; with_reducible exact H2_) | with_reducible exact H | (rw [hy348]; exact H) | exact H
      have Ny348 := Aside0.mk hy348
      clear hy348
      obtain rfl := Option.some.inj H
      go_wp2_with (first | ((with_reducible refine gate_builtin (b := .append) (xs := #[.tmp 31, .tmp 34]) rfl ?_); at_builtin; refine Kd.R_append k36 (w0 := w) w.heap.size rfl (.tmp 31) (.tmp 34) 22 36 (.agg #[(.int .i32 0), (.int .i32 0)]) 8 rfl Tryd.underlying22 info36 rfl Z39 Z29 u3 x3_1 (⟨x4_1, 1114111⟩ : S36) [.int .i32 x4_1, .int .i32 1114111] (fun _ => True) (fun _ => False) rfl rfl ?aP (fun _ hk => hk.elim) ?aF ?aO ?aB ?aS ?aL ?_; (case aP => exact k36_mkM _ _ _ (⟨x4_1, 1114111⟩ : S36)); (case aB => exact zB); (case aF => exact (fun _ _ => trivial)); (case aO => exact (kK HO_3)); (case aS => exact (below_size zB)); (case aL => have := LMc14.out; omega); intro v349 w15 ho hb hg hat; rw [← Ny348.out] at ho; have n0_ := Aside0.mk (hb); have n1_ := Aside0.mk (ho); clear HB; clear HO_3; have HB := n0_; have HO350 := n1_; clear n0_ n1_; clear ho hb hg hat))
      go_ret
      exact ⟨_, Z4, by (with_reducible repeat (first | apply Kd.R_alloc | apply Kd.R_drewN | apply Kd.R_drew)); exact HO350.out, Z0⟩
     ·rw [if_neg c14] at H
      exact absurd H Z37
    ·rw [if_neg c13] at H
     have c13b0 := decide_eq_false c13
     clear c13
     obtain rfl := Option.some.inj H
     go_wp2
     go_ret
     exact ⟨_, Z4, Z35, Z0⟩
end Go.Proofs.YtfnkboilepgmoaaDoor.R
