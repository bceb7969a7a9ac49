import Derived.Test.YtfnkboilepgmoaaDoorFPre
namespace Go.Proofs.YtfnkboilepgmoaaDoor.R
open Go.RowKit Go.Proofs.YtfnkboilepgmoaaDoorW.PrintWords Go.Proofs.YtfnkboilepgmoaaDoorW.PrintLast Go.Proofs.YtfnkboilepgmoaaDoorW.PrintMore
attribute [local go_sem] max2_int min2_int max_two min_two max_three min_three max_four min_four
set_option linter.unusedVariables false
set_option linter.unusedSimpArgs false
mutual
def runes_both.l0 : Nat → List (S36) → List (S36) → List (S36) → Int → Int → Option ((List (S36)))
 | 0, _, _, _, _, _ => none
 | k + 1, x0, x1, x5, x6, x7 => if x6 < (x0.length : Int) then (runes_both.j1 k x0 x1 x5 x6 x7 (decide (x7 < (x1.length : Int)))) else (runes_both.j1 k x0 x1 x5 x6 x7 false)
def runes_both.j1 : Nat → List (S36) → List (S36) → List (S36) → Int → Int → Bool → Option ((List (S36)))
 | 0, _, _, _, _, _, _ => none
 | k + 1, x0, x1, x5, x6, x7, x19 => if x19 = true then (if 0 ≤ x6 then (if x6 < (x0.length : Int) then (if 0 ≤ x7 then (if x7 < (x1.length : Int) then (if (mx ((rd_T36 x0 x6).f0) ((rd_T36 x1 x7).f0)) ≤ (mn ((rd_T36 x0 x6).f1) ((rd_T36 x1 x7).f1)) then (if x5.length < 17592186044416 then ((some (x5 ++ [(⟨mx ((rd_T36 x0 x6).f0) ((rd_T36 x1 x7).f0), mn ((rd_T36 x0 x6).f1) ((rd_T36 x1 x7).f1)⟩ : S36)] : List (S36))).bind fun y300 => (if ((rd_T36 x0 x6).f1) < ((rd_T36 x1 x7).f1) then (runes_both.l0 k x0 x1 y300 (wrap64 (x6 + 1)) x7) else (runes_both.l0 k x0 x1 y300 x6 (wrap64 (x7 + 1))))) else (none)) else (if ((rd_T36 x0 x6).f1) < ((rd_T36 x1 x7).f1) then (runes_both.l0 k x0 x1 x5 (wrap64 (x6 + 1)) x7) else (runes_both.l0 k x0 x1 x5 x6 (wrap64 (x7 + 1))))) else (none)) else (none)) else (none)) else (none)) else (some x5)
end
def runes_both.f (k : Nat) (l0 : List (S36)) (l1 : List (S36)) : Option ((List (S36))) := runes_both.l0 k l0 l1 ([] : List (S36)) 0 0
set_option maxHeartbeats 8000000 in
set_option maxRecDepth 100000 in
theorem runes_both.calls (k : Nat) (A0 : Option Addr) (c0 : Nat) (l0 : List (S36)) (A1 : Option Addr) (c1 : Nat) (l1 : List (S36)) (r : List (S36)) (w : World) (hr0 : Kd.C k36 w A0 l0.length l0) (hc0 : l0.length ≤ c0) (hr1 : Kd.C k36 w A1 l1.length l1) (hc1 : l1.length ≤ c1) (h : runes_both.f k l0 l1 = some r) :
  Calls Tryd.prog 49 #[.slice A0 l0.length c0, .slice A1 l1.length c1] w fun e w' => ∃ v0_ : Value, e = .returned (v0_) ∧ Kd.R k36 36 w' w.heap.size (fun _ => True) v0_ r ∧ Below w.heap.size w w' := by
 have hu36 := Tryd.underlying36
 have HR0 := Aside0.mk hr0
 have HC0 := Aside0.mk hc0
 clear hr0 hc0
 have HR1 := Aside0.mk hr1
 have HC1 := Aside0.mk hc1
 clear hr1 hc1
 have HB := Aside0.mk (Below.refl w.heap.size w)
 have H : (runes_both.l0 k l0 l1 ([] : List (S36)) 0 0) = some r := h
 clear h
 have H' := Aside0.mk H
 clear H
 go_enter Tryd.func49, Tryd.ntmps49
 go_wp2
 repeat (go_quiet (fail); try go_wp2)
 go_loopg [5, 6, 7] k (fun kq v5 v6 v7 w' => ∃ (x5_1 : List (S36)) (x6_1 : Int) (x7_1 : Int), v6 = .int .i64 x6_1 ∧ v7 = .int .i64 x7_1 ∧ Aside0 (runes_both.l0 kq l0 l1 x5_1 x6_1 x7_1 = some r) ∧ Aside0 (kq ≤ k) ∧ Aside0 (Kd.R k36 36 w' w.heap.size (fun _ => True) v5 x5_1) ∧ Aside0 (Below w.heap.size w w'))
 case atStart => exact ⟨(([] : List (S36))), (0), (0), Z4, Z4, H', ⟨Nat.le_refl _⟩, ⟨Z5⟩, ⟨Z0⟩⟩
 case round =>
  clear H'
  try clear c1
  try clear p2
  obtain ⟨x5_1, x6_1, x7_1, rfl, rfl, HA, HK1, HO_5, HB⟩ := hrel
  cases gk with
  | zero => exact absurd HA.out (by simp [runes_both.l0])
  | succ k1 =>
   have H := HA.out
   clear HA
   simp only [runes_both.l0] at H
   have HC3 := Aside0.mk H
   clear H
   go_upto_region 3 with (fail)
   repeat (go_quiet (fail); go_upto_region 3 with (fail))
   go_cut [19] (fun v19 wc => ∃ (kq : Nat) (x19_2 : Bool), v19 = .bool x19_2 ∧ Aside0 (runes_both.j1 kq l0 l1 x5_1 x6_1 x7_1 x19_2 = some r) ∧ Aside0 (kq ≤ k1) ∧ Aside0 (Kd.R k36 36 wc w.heap.size (fun _ => True) u5 x5_1) ∧ Aside0 (Below w.heap.size w wc))
   case first =>
    have H := HC3.out
    clear HC3
    by_cases c4 : x6_1 < (l0.length : Int)
    ·rw [if_pos c4] at H
     have c4b0 := decide_eq_true c4
     clear c4
     (first | rw [c4b0] | (simp only [i64_w, i32_w]; rw [c4b0]) | skip)
     have H' := Aside0.mk H
     clear H
     go_wp2
     repeat (go_quiet (fail); try go_wp2)
     go_meet
     case rel => exact ⟨_, (decide (x7_1 < (l1.length : Int))), Z4, H', ⟨by have := HK1.out; first | omega | exact Nat.le_refl _⟩, ⟨Z22⟩, ⟨Z0⟩⟩
    ·rw [if_neg c4] at H
     have c4b0 := decide_eq_false c4
     clear c4
     (first | rw [c4b0] | (simp only [i64_w, i32_w]; rw [c4b0]) | skip)
     have H' := Aside0.mk H
     clear H
     go_wp2
     repeat (go_quiet (fail); try go_wp2)
     go_meet
     case rel => exact ⟨_, (false), Z4, H', ⟨by have := HK1.out; first | omega | exact Nat.le_refl _⟩, ⟨Z22⟩, ⟨Z0⟩⟩
   case rest =>
    clear HC3
    try clear c1
    try clear p2
    try clear c4
    try clear c4b0
    try clear p2
    obtain ⟨kq, x19_2, rfl, HA, HJ2, HO_5, HB⟩ := hcut
    cases kq with
    | zero => exact absurd HA.out (by simp [runes_both.j1])
    | succ kj2 =>
     have H := HA.out
     clear HA
     simp only [runes_both.j1] at H
     by_cases c5 : x19_2 = true
     ·subst c5
      have H1 : (if 0 ≤ x6_1 then (if x6_1 < (l0.length : Int) then (if 0 ≤ x7_1 then (if x7_1 < (l1.length : Int) then (if (mx ((rd_T36 l0 x6_1).f0) ((rd_T36 l1 x7_1).f0)) ≤ (mn ((rd_T36 l0 x6_1).f1) ((rd_T36 l1 x7_1).f1)) then (if x5_1.length < 17592186044416 then ((some (x5_1 ++ [(⟨mx ((rd_T36 l0 x6_1).f0) ((rd_T36 l1 x7_1).f0), mn ((rd_T36 l0 x6_1).f1) ((rd_T36 l1 x7_1).f1)⟩ : S36)] : List (S36))).bind fun y300 => (if ((rd_T36 l0 x6_1).f1) < ((rd_T36 l1 x7_1).f1) then (runes_both.l0 kj2 l0 l1 y300 (wrap64 (x6_1 + 1)) x7_1) else (runes_both.l0 kj2 l0 l1 y300 x6_1 (wrap64 (x7_1 + 1))))) else (none)) else (if ((rd_T36 l0 x6_1).f1) < ((rd_T36 l1 x7_1).f1) then (runes_both.l0 kj2 l0 l1 x5_1 (wrap64 (x6_1 + 1)) x7_1) else (runes_both.l0 kj2 l0 l1 x5_1 x6_1 (wrap64 (x7_1 + 1))))) else (none)) else (none)) else (none)) else (none)) = some r := by rw [if_pos rfl] at H; exact H
      clear H
      have H := H1
      clear H1
      by_cases c6 : 0 ≤ x6_1
      ·rw [if_pos c6] at H
       have c6b0 := decide_eq_true c6
       clear c6
       by_cases c7 : x6_1 < (l0.length : Int)
       ·rw [if_pos c7] at H
        have c7b0 := decide_eq_true c7
        clear c7
        by_cases c8 : 0 ≤ x7_1
        ·rw [if_pos c8] at H
         have c8b0 := decide_eq_true c8
         clear c8
         by_cases c9 : x7_1 < (l1.length : Int)
         ·rw [if_pos c9] at H
          have c9b0 := decide_eq_true c9
          clear c9
          obtain ⟨ji10, hji10⟩ : ∃ j_ : Int, (mx ((rd_T36 l0 x6_1).f0) ((rd_T36 l1 x7_1).f0)) = j_ := ⟨_, rfl⟩
          replace H : (if (ji10) ≤ (mn ((rd_T36 l0 x6_1).f1) ((rd_T36 l1 x7_1).f1)) then (if x5_1.length < 17592186044416 then ((some (x5_1 ++ [(⟨ji10, mn ((rd_T36 l0 x6_1).f1) ((rd_T36 l1 x7_1).f1)⟩ : S36)] : List (S36))).bind fun y300 => (if ((rd_T36 l0 x6_1).f1) < ((rd_T36 l1 x7_1).f1) then (runes_both.l0 kj2 l0 l1 y300 (wrap64 (x6_1 + 1)) x7_1) else (runes_both.l0 kj2 l0 l1 y300 x6_1 (wrap64 (x7_1 + 1))))) else (none)) else (if ((rd_T36 l0 x6_1).f1) < ((rd_T36 l1 x7_1).f1) then (runes_both.l0 kj2 l0 l1 x5_1 (wrap64 (x6_1 + 1)) x7_1) else (runes_both.l0 kj2 l0 l1 x5_1 x6_1 (wrap64 (x7_1 + 1))))) = some r := by first | (rw [hji10] at H; exact H) | (simp only [hji10] at H ⊢; exact H)
          have hji10_ : (if ((rd_T36 l0 x6_1).f0) < ((rd_T36 l1 x7_1).f0) then ((rd_T36 l1 x7_1).f0) else ((rd_T36 l0 x6_1).f0)) = ji10 := hji10
          obtain ⟨ji11, hji11⟩ : ∃ j_ : Int, (mn ((rd_T36 l0 x6_1).f1) ((rd_T36 l1 x7_1).f1)) = j_ := ⟨_, rfl⟩
          replace H : (if (ji10) ≤ (ji11) then (if x5_1.length < 17592186044416 then ((some (x5_1 ++ [(⟨ji10, ji11⟩ : S36)] : List (S36))).bind fun y300 => (if ((rd_T36 l0 x6_1).f1) < ((rd_T36 l1 x7_1).f1) then (runes_both.l0 kj2 l0 l1 y300 (wrap64 (x6_1 + 1)) x7_1) else (runes_both.l0 kj2 l0 l1 y300 x6_1 (wrap64 (x7_1 + 1))))) else (none)) else (if ((rd_T36 l0 x6_1).f1) < ((rd_T36 l1 x7_1).f1) then (runes_both.l0 kj2 l0 l1 x5_1 (wrap64 (x6_1 + 1)) x7_1) else (runes_both.l0 kj2 l0 l1 x5_1 x6_1 (wrap64 (x7_1 + 1))))) = some r := by first | (rw [hji11] at H; exact H) | (simp only [hji11] at H ⊢; exact H)
          have hji11_ : (if ((rd_T36 l1 x7_1).f1) < ((rd_T36 l0 x6_1).f1) then ((rd_T36 l1 x7_1).f1) else ((rd_T36 l0 x6_1).f1)) = ji11 := hji11
          by_cases c12 : (ji10) ≤ (ji11)
          ·rw [if_pos c12] at H
           have c12b0 := decide_eq_true c12
           clear c12
           by_cases c13 : x5_1.length < 17592186044416
           ·rw [if_pos c13] at H
            have LMc13 := Aside0.mk c13
            clear c13
            obtain ⟨y300, hy300⟩ : ∃ y_ : List (S36), y_ = (x5_1 ++ [(⟨ji10, ji11⟩ : S36)]) := ⟨_, rfl⟩
            replace H : (if ((rd_T36 l0 x6_1).f1) < ((rd_T36 l1 x7_1).f1) then (runes_both.l0 kj2 l0 l1 y300 (wrap64 (x6_1 + 1)) x7_1) else (runes_both.l0 kj2 l0 l1 y300 x6_1 (wrap64 (x7_1 + 1)))) = some r := by first | (rw [hy300]; with_reducible exact H) | (have H2_ := (Option.bind_some _ _).symm.trans H; rw [hy300]; with_reducible exact H2_) | (have H2_ := (Option.bind_some _ _).symm.trans H; with_reducible exact H2_) | with_reducible exact H | (rw [hy300]; exact H) | exact H
            have Ny300 := Aside0.mk hy300
            clear hy300
            by_cases c14 : ((rd_T36 l0 x6_1).f1) < ((rd_T36 l1 x7_1).f1)
            ·rw [if_pos c14] at H
             have c14b0 := decide_eq_true c14
             clear c14
             have H' := Aside0.mk H
             clear H
             have p296 : 0 ≤ (x6_1 : Int) := of_decide_eq_true Z2
             have q296 : x6_1 < (l0.length : Int) := of_decide_eq_true Z2
             obtain ⟨ad296, e296, hx296_0, hx296_1⟩ := at_T36 HR0.out x6_1 p296 q296
             cases e296
             replace hx296_0 := (HB.out.cell (World.block_lt_of_cell? w _ hx296_0)).trans hx296_0
             replace hx296_1 := (HB.out.cell (World.block_lt_of_cell? w _ hx296_1)).trans hx296_1
             replace p296 := eq_true p296
             replace q296 := eq_true q296
             have p297 : 0 ≤ (x7_1 : Int) := of_decide_eq_true Z2
             have q297 : x7_1 < (l1.length : Int) := of_decide_eq_true Z2
             obtain ⟨ad297, e297, hx297_0, hx297_1⟩ := at_T36 HR1.out x7_1 p297 q297
             cases e297
             replace hx297_0 := (HB.out.cell (World.block_lt_of_cell? w _ hx297_0)).trans hx297_0
             replace hx297_1 := (HB.out.cell (World.block_lt_of_cell? w _ hx297_1)).trans hx297_1
             replace p297 := eq_true p297
             replace q297 := eq_true q297
             have p298 : 0 ≤ (x6_1 : Int) := of_decide_eq_true Z2
             have q298 : x6_1 < (l0.length : Int) := of_decide_eq_true Z2
             obtain ⟨ad298, e298, hx298_0, hx298_1⟩ := at_T36 HR0.out x6_1 p298 q298
             obtain rfl : ad296 = ad298 := (by injection e298)
             replace hx298_0 := (HB.out.cell (World.block_lt_of_cell? w _ hx298_0)).trans hx298_0
             replace hx298_1 := (HB.out.cell (World.block_lt_of_cell? w _ hx298_1)).trans hx298_1
             replace p298 := eq_true p298
             replace q298 := eq_true q298
             have p299 : 0 ≤ (x7_1 : Int) := of_decide_eq_true Z2
             have q299 : x7_1 < (l1.length : Int) := of_decide_eq_true Z2
             obtain ⟨ad299, e299, hx299_0, hx299_1⟩ := at_T36 HR1.out x7_1 p299 q299
             obtain rfl : ad297 = ad299 := (by injection e299)
             replace hx299_0 := (HB.out.cell (World.block_lt_of_cell? w _ hx299_0)).trans hx299_0
             replace hx299_1 := (HB.out.cell (World.block_lt_of_cell? w _ hx299_1)).trans hx299_1
             replace p299 := eq_true p299
             replace q299 := eq_true q299
             go_wp2_with (first | ((with_reducible refine gate_builtin (b := .append) (xs := #[.tmp 45, .tmp 49]) rfl ?_); (try (refine gate_guard (by rfl) ?_; dsimp only)); at_builtin; refine Kd.R_append k36 (w0 := w) w.heap.size rfl (.tmp 45) (.tmp 49) 22 36 (.agg #[(.int .i32 0), (.int .i32 0)]) 8 rfl Tryd.underlying22 info36 rfl Z28 Z19 u5 x5_1 (⟨ji10, ji11⟩ : S36) [.int .i32 ji10, .int .i32 ji11] (fun _ => True) (fun _ => False) rfl rfl ?aP (fun _ hk => hk.elim) ?aF ?aO ?aB ?aS ?aL ?_; (case aP => exact k36_mkM _ _ _ (⟨ji10, ji11⟩ : S36)); (case aB => exact zB); (case aF => exact (fun _ _ => trivial)); (case aO => exact (kK HO_5)); (case aS => exact (below_size zB)); (case aL => have := LMc13.out; omega); intro v301 w15 ho hb hg hat; rw [← Ny300.out] at ho; have n0_ := Aside0.mk (hb); have n1_ := Aside0.mk (ho); clear HB; clear HO_5; have HB := n0_; have HO302 := n1_; clear n0_ n1_; clear ho hb hg hat; have p303 : 0 ≤ (x6_1 : Int) := of_decide_eq_true Z2; have q303 : x6_1 < (l0.length : Int) := of_decide_eq_true Z2; obtain ⟨ad303, e303, hx303_0, hx303_1⟩ := at_T36 HR0.out x6_1 p303 q303; obtain rfl : ad296 = ad303 := (by injection e303); replace hx303_0 := (HB.out.cell (World.block_lt_of_cell? w _ hx303_0)).trans hx303_0; replace hx303_1 := (HB.out.cell (World.block_lt_of_cell? w _ hx303_1)).trans hx303_1; replace p303 := eq_true p303; replace q303 := eq_true q303; have p304 : 0 ≤ (x7_1 : Int) := of_decide_eq_true Z2; have q304 : x7_1 < (l1.length : Int) := of_decide_eq_true Z2; obtain ⟨ad304, e304, hx304_0, hx304_1⟩ := at_T36 HR1.out x7_1 p304 q304; obtain rfl : ad297 = ad304 := (by injection e304); replace hx304_0 := (HB.out.cell (World.block_lt_of_cell? w _ hx304_0)).trans hx304_0; replace hx304_1 := (HB.out.cell (World.block_lt_of_cell? w _ hx304_1)).trans hx304_1; replace p304 := eq_true p304; replace q304 := eq_true q304))
             repeat (go_quiet (first | ((with_reducible refine gate_builtin (b := .append) (xs := #[.tmp 45, .tmp 49]) rfl ?_); (try (refine gate_guard (by rfl) ?_; dsimp only)); at_builtin; refine Kd.R_append k36 (w0 := w) w.heap.size rfl (.tmp 45) (.tmp 49) 22 36 (.agg #[(.int .i32 0), (.int .i32 0)]) 8 rfl Tryd.underlying22 info36 rfl Z28 Z19 u5 x5_1 (⟨ji10, ji11⟩ : S36) [.int .i32 ji10, .int .i32 ji11] (fun _ => True) (fun _ => False) rfl rfl ?aP (fun _ hk => hk.elim) ?aF ?aO ?aB ?aS ?aL ?_; (case aP => exact k36_mkM _ _ _ (⟨ji10, ji11⟩ : S36)); (case aB => exact zB); (case aF => exact (fun _ _ => trivial)); (case aO => exact (kK HO_5)); (case aS => exact (below_size zB)); (case aL => have := LMc13.out; omega); intro v301 w15 ho hb hg hat; rw [← Ny300.out] at ho; have n0_ := Aside0.mk (hb); have n1_ := Aside0.mk (ho); clear HB; clear HO_5; have HB := n0_; have HO302 := n1_; clear n0_ n1_; clear ho hb hg hat; have p303 : 0 ≤ (x6_1 : Int) := of_decide_eq_true Z2; have q303 : x6_1 < (l0.length : Int) := of_decide_eq_true Z2; obtain ⟨ad303, e303, hx303_0, hx303_1⟩ := at_T36 HR0.out x6_1 p303 q303; obtain rfl : ad296 = ad303 := (by injection e303); replace hx303_0 := (HB.out.cell (World.block_lt_of_cell? w _ hx303_0)).trans hx303_0; replace hx303_1 := (HB.out.cell (World.block_lt_of_cell? w _ hx303_1)).trans hx303_1; replace p303 := eq_true p303; replace q303 := eq_true q303; have p304 : 0 ≤ (x7_1 : Int) := of_decide_eq_true Z2; have q304 : x7_1 < (l1.length : Int) := of_decide_eq_true Z2; obtain ⟨ad304, e304, hx304_0, hx304_1⟩ := at_T36 HR1.out x7_1 p304 q304; obtain rfl : ad297 = ad304 := (by injection e304); replace hx304_0 := (HB.out.cell (World.block_lt_of_cell? w _ hx304_0)).trans hx304_0; replace hx304_1 := (HB.out.cell (World.block_lt_of_cell? w _ hx304_1)).trans hx304_1; replace p304 := eq_true p304; replace q304 := eq_true q304)); try go_wp2_with (first | ((with_reducible refine gate_builtin (b := .append) (xs := #[.tmp 45, .tmp 49]) rfl ?_); (try (refine gate_guard (by rfl) ?_; dsimp only)); at_builtin; refine Kd.R_append k36 (w0 := w) w.heap.size rfl (.tmp 45) (.tmp 49) 22 36 (.agg #[(.int .i32 0), (.int .i32 0)]) 8 rfl Tryd.underlying22 info36 rfl Z28 Z19 u5 x5_1 (⟨ji10, ji11⟩ : S36) [.int .i32 ji10, .int .i32 ji11] (fun _ => True) (fun _ => False) rfl rfl ?aP (fun _ hk => hk.elim) ?aF ?aO ?aB ?aS ?aL ?_; (case aP => exact k36_mkM _ _ _ (⟨ji10, ji11⟩ : S36)); (case aB => exact zB); (case aF => exact (fun _ _ => trivial)); (case aO => exact (kK HO_5)); (case aS => exact (below_size zB)); (case aL => have := LMc13.out; omega); intro v301 w15 ho hb hg hat; rw [← Ny300.out] at ho; have n0_ := Aside0.mk (hb); have n1_ := Aside0.mk (ho); clear HB; clear HO_5; have HB := n0_; have HO302 := n1_; clear n0_ n1_; clear ho hb hg hat; have p303 : 0 ≤ (x6_1 : Int) := of_decide_eq_true Z2; have q303 : x6_1 < (l0.length : Int) := of_decide_eq_true Z2; obtain ⟨ad303, e303, hx303_0, hx303_1⟩ := at_T36 HR0.out x6_1 p303 q303; obtain rfl : ad296 = ad303 := (by injection e303); replace hx303_0 := (HB.out.cell (World.block_lt_of_cell? w _ hx303_0)).trans hx303_0; replace hx303_1 := (HB.out.cell (World.block_lt_of_cell? w _ hx303_1)).trans hx303_1; replace p303 := eq_true p303; replace q303 := eq_true q303; have p304 : 0 ≤ (x7_1 : Int) := of_decide_eq_true Z2; have q304 : x7_1 < (l1.length : Int) := of_decide_eq_true Z2; obtain ⟨ad304, e304, hx304_0, hx304_1⟩ := at_T36 HR1.out x7_1 p304 q304; obtain rfl : ad297 = ad304 := (by injection e304); replace hx304_0 := (HB.out.cell (World.block_lt_of_cell? w _ hx304_0)).trans hx304_0; replace hx304_1 := (HB.out.cell (World.block_lt_of_cell? w _ hx304_1)).trans hx304_1; replace p304 := eq_true p304; replace q304 := eq_true q304)))
             go_roundg kj2
             case measure => have := HK1.out; have := HJ2.out; omega
             case rel => exact ⟨(y300), (wrap64 (x6_1 + 1)), (x7_1), Z4, Z4, H', ⟨by have := HK1.out; have := HJ2.out; omega⟩, ⟨by (with_reducible repeat (first | apply Kd.R_alloc | apply Kd.R_drewN | apply Kd.R_drew)); exact HO302.out⟩, ⟨Z0⟩⟩
            ·rw [if_neg c14] at H
             have c14b0 := decide_eq_false c14
             clear c14
             have H' := Aside0.mk H
             clear H
             have p296 : 0 ≤ (x6_1 : Int) := of_decide_eq_true Z2
             have q296 : x6_1 < (l0.length : Int) := of_decide_eq_true Z2
             obtain ⟨ad296, e296, hx296_0, hx296_1⟩ := at_T36 HR0.out x6_1 p296 q296
             cases e296
             replace hx296_0 := (HB.out.cell (World.block_lt_of_cell? w _ hx296_0)).trans hx296_0
             replace hx296_1 := (HB.out.cell (World.block_lt_of_cell? w _ hx296_1)).trans hx296_1
             replace p296 := eq_true p296
             replace q296 := eq_true q296
             have p297 : 0 ≤ (x7_1 : Int) := of_decide_eq_true Z2
             have q297 : x7_1 < (l1.length : Int) := of_decide_eq_true Z2
             obtain ⟨ad297, e297, hx297_0, hx297_1⟩ := at_T36 HR1.out x7_1 p297 q297
             cases e297
             replace hx297_0 := (HB.out.cell (World.block_lt_of_cell? w _ hx297_0)).trans hx297_0
             replace hx297_1 := (HB.out.cell (World.block_lt_of_cell? w _ hx297_1)).trans hx297_1
             replace p297 := eq_true p297
             replace q297 := eq_true q297
             have p298 : 0 ≤ (x6_1 : Int) := of_decide_eq_true Z2
             have q298 : x6_1 < (l0.length : Int) := of_decide_eq_true Z2
             obtain ⟨ad298, e298, hx298_0, hx298_1⟩ := at_T36 HR0.out x6_1 p298 q298
             obtain rfl : ad296 = ad298 := (by injection e298)
             replace hx298_0 := (HB.out.cell (World.block_lt_of_cell? w _ hx298_0)).trans hx298_0
             replace hx298_1 := (HB.out.cell (World.block_lt_of_cell? w _ hx298_1)).trans hx298_1
             replace p298 := eq_true p298
             replace q298 := eq_true q298
             have p299 : 0 ≤ (x7_1 : Int) := of_decide_eq_true Z2
             have q299 : x7_1 < (l1.length : Int) := of_decide_eq_true Z2
             obtain ⟨ad299, e299, hx299_0, hx299_1⟩ := at_T36 HR1.out x7_1 p299 q299
             obtain rfl : ad297 = ad299 := (by injection e299)
             replace hx299_0 := (HB.out.cell (World.block_lt_of_cell? w _ hx299_0)).trans hx299_0
             replace hx299_1 := (HB.out.cell (World.block_lt_of_cell? w _ hx299_1)).trans hx299_1
             replace p299 := eq_true p299
             replace q299 := eq_true q299
             go_wp2_with (first | ((with_reducible refine gate_builtin (b := .append) (xs := #[.tmp 45, .tmp 49]) rfl ?_); (try (refine gate_guard (by rfl) ?_; dsimp only)); at_builtin; refine Kd.R_append k36 (w0 := w) w.heap.size rfl (.tmp 45) (.tmp 49) 22 36 (.agg #[(.int .i32 0), (.int .i32 0)]) 8 rfl Tryd.underlying22 info36 rfl Z28 Z19 u5 x5_1 (⟨ji10, ji11⟩ : S36) [.int .i32 ji10, .int .i32 ji11] (fun _ => True) (fun _ => False) rfl rfl ?aP (fun _ hk => hk.elim) ?aF ?aO ?aB ?aS ?aL ?_; (case aP => exact k36_mkM _ _ _ (⟨ji10, ji11⟩ : S36)); (case aB => exact zB); (case aF => exact (fun _ _ => trivial)); (case aO => exact (kK HO_5)); (case aS => exact (below_size zB)); (case aL => have := LMc13.out; omega); intro v301 w16 ho hb hg hat; rw [← Ny300.out] at ho; have n0_ := Aside0.mk (hb); have n1_ := Aside0.mk (ho); clear HB; clear HO_5; have HB := n0_; have HO302 := n1_; clear n0_ n1_; clear ho hb hg hat; have p303 : 0 ≤ (x6_1 : Int) := of_decide_eq_true Z2; have q303 : x6_1 < (l0.length : Int) := of_decide_eq_true Z2; obtain ⟨ad303, e303, hx303_0, hx303_1⟩ := at_T36 HR0.out x6_1 p303 q303; obtain rfl : ad296 = ad303 := (by injection e303); replace hx303_0 := (HB.out.cell (World.block_lt_of_cell? w _ hx303_0)).trans hx303_0; replace hx303_1 := (HB.out.cell (World.block_lt_of_cell? w _ hx303_1)).trans hx303_1; replace p303 := eq_true p303; replace q303 := eq_true q303; have p304 : 0 ≤ (x7_1 : Int) := of_decide_eq_true Z2; have q304 : x7_1 < (l1.length : Int) := of_decide_eq_true Z2; obtain ⟨ad304, e304, hx304_0, hx304_1⟩ := at_T36 HR1.out x7_1 p304 q304; obtain rfl : ad297 = ad304 := (by injection e304); replace hx304_0 := (HB.out.cell (World.block_lt_of_cell? w _ hx304_0)).trans hx304_0; replace hx304_1 := (HB.out.cell (World.block_lt_of_cell? w _ hx304_1)).trans hx304_1; replace p304 := eq_true p304; replace q304 := eq_true q304))
             repeat (go_quiet (first | ((with_reducible refine gate_builtin (b := .append) (xs := #[.tmp 45, .tmp 49]) rfl ?_); (try (refine gate_guard (by rfl) ?_; dsimp only)); at_builtin; refine Kd.R_append k36 (w0 := w) w.heap.size rfl (.tmp 45) (.tmp 49) 22 36 (.agg #[(.int .i32 0), (.int .i32 0)]) 8 rfl Tryd.underlying22 info36 rfl Z28 Z19 u5 x5_1 (⟨ji10, ji11⟩ : S36) [.int .i32 ji10, .int .i32 ji11] (fun _ => True) (fun _ => False) rfl rfl ?aP (fun _ hk => hk.elim) ?aF ?aO ?aB ?aS ?aL ?_; (case aP => exact k36_mkM _ _ _ (⟨ji10, ji11⟩ : S36)); (case aB => exact zB); (case aF => exact (fun _ _ => trivial)); (case aO => exact (kK HO_5)); (case aS => exact (below_size zB)); (case aL => have := LMc13.out; omega); intro v301 w16 ho hb hg hat; rw [← Ny300.out] at ho; have n0_ := Aside0.mk (hb); have n1_ := Aside0.mk (ho); clear HB; clear HO_5; have HB := n0_; have HO302 := n1_; clear n0_ n1_; clear ho hb hg hat; have p303 : 0 ≤ (x6_1 : Int) := of_decide_eq_true Z2; have q303 : x6_1 < (l0.length : Int) := of_decide_eq_true Z2; obtain ⟨ad303, e303, hx303_0, hx303_1⟩ := at_T36 HR0.out x6_1 p303 q303; obtain rfl : ad296 = ad303 := (by injection e303); replace hx303_0 := (HB.out.cell (World.block_lt_of_cell? w _ hx303_0)).trans hx303_0; replace hx303_1 := (HB.out.cell (World.block_lt_of_cell? w _ hx303_1)).trans hx303_1; replace p303 := eq_true p303; replace q303 := eq_true q303; have p304 : 0 ≤ (x7_1 : Int) := of_decide_eq_true Z2; have q304 : x7_1 < (l1.length : Int) := of_decide_eq_true Z2; obtain ⟨ad304, e304, hx304_0, hx304_1⟩ := at_T36 HR1.out x7_1 p304 q304; obtain rfl : ad297 = ad304 := (by injection e304); replace hx304_0 := (HB.out.cell (World.block_lt_of_cell? w _ hx304_0)).trans hx304_0; replace hx304_1 := (HB.out.cell (World.block_lt_of_cell? w _ hx304_1)).trans hx304_1; replace p304 := eq_true p304; replace q304 := eq_true q304)); try go_wp2_with (first | ((with_reducible refine gate_builtin (b := .append) (xs := #[.tmp 45, .tmp 49]) rfl ?_); (try (refine gate_guard (by rfl) ?_; dsimp only)); at_builtin; refine Kd.R_append k36 (w0 := w) w.heap.size rfl (.tmp 45) (.tmp 49) 22 36 (.agg #[(.int .i32 0), (.int .i32 0)]) 8 rfl Tryd.underlying22 info36 rfl Z28 Z19 u5 x5_1 (⟨ji10, ji11⟩ : S36) [.int .i32 ji10, .int .i32 ji11] (fun _ => True) (fun _ => False) rfl rfl ?aP (fun _ hk => hk.elim) ?aF ?aO ?aB ?aS ?aL ?_; (case aP => exact k36_mkM _ _ _ (⟨ji10, ji11⟩ : S36)); (case aB => exact zB); (case aF => exact (fun _ _ => trivial)); (case aO => exact (kK HO_5)); (case aS => exact (below_size zB)); (case aL => have := LMc13.out; omega); intro v301 w16 ho hb hg hat; rw [← Ny300.out] at ho; have n0_ := Aside0.mk (hb); have n1_ := Aside0.mk (ho); clear HB; clear HO_5; have HB := n0_; have HO302 := n1_; clear n0_ n1_; clear ho hb hg hat; have p303 : 0 ≤ (x6_1 : Int) := of_decide_eq_true Z2; have q303 : x6_1 < (l0.length : Int) := of_decide_eq_true Z2; obtain ⟨ad303, e303, hx303_0, hx303_1⟩ := at_T36 HR0.out x6_1 p303 q303; obtain rfl : ad296 = ad303 := (by injection e303); replace hx303_0 := (HB.out.cell (World.block_lt_of_cell? w _ hx303_0)).trans hx303_0; replace hx303_1 := (HB.out.cell (World.block_lt_of_cell? w _ hx303_1)).trans hx303_1; replace p303 := eq_true p303; replace q303 := eq_true q303; have p304 : 0 ≤ (x7_1 : Int) := of_decide_eq_true Z2; have q304 : x7_1 < (l1.length : Int) := of_decide_eq_true Z2; obtain ⟨ad304, e304, hx304_0, hx304_1⟩ := at_T36 HR1.out x7_1 p304 q304; obtain rfl : ad297 = ad304 := (by injection e304); replace hx304_0 := (HB.out.cell (World.block_lt_of_cell? w _ hx304_0)).trans hx304_0; replace hx304_1 := (HB.out.cell (World.block_lt_of_cell? w _ hx304_1)).trans hx304_1; replace p304 := eq_true p304; replace q304 := eq_true q304)))
             go_roundg kj2
             case measure => have := HK1.out; have := HJ2.out; omega
             case rel => exact ⟨(y300), (x6_1), (wrap64 (x7_1 + 1)), Z4, Z4, H', ⟨by have := HK1.out; have := HJ2.out; omega⟩, ⟨by (with_reducible repeat (first | apply Kd.R_alloc | apply Kd.R_drewN | apply Kd.R_drew)); exact HO302.out⟩, ⟨Z0⟩⟩
           ·rw [if_neg c13] at H
            exact absurd H Z23
          ·rw [if_neg c12] at H
           have c12b0 := decide_eq_false c12
           clear c12
           by_cases c17 : ((rd_T36 l0 x6_1).f1) < ((rd_T36 l1 x7_1).f1)
           ·rw [if_pos c17] at H
            have c17b0 := decide_eq_true c17
            clear c17
            have H' := Aside0.mk H
            clear H
            have p296 : 0 ≤ (x6_1 : Int) := of_decide_eq_true Z2
            have q296 : x6_1 < (l0.length : Int) := of_decide_eq_true Z2
            obtain ⟨ad296, e296, hx296_0, hx296_1⟩ := at_T36 HR0.out x6_1 p296 q296
            cases e296
            replace hx296_0 := (HB.out.cell (World.block_lt_of_cell? w _ hx296_0)).trans hx296_0
            replace hx296_1 := (HB.out.cell (World.block_lt_of_cell? w _ hx296_1)).trans hx296_1
            replace p296 := eq_true p296
            replace q296 := eq_true q296
            have p297 : 0 ≤ (x7_1 : Int) := of_decide_eq_true Z2
            have q297 : x7_1 < (l1.length : Int) := of_decide_eq_true Z2
            obtain ⟨ad297, e297, hx297_0, hx297_1⟩ := at_T36 HR1.out x7_1 p297 q297
            cases e297
            replace hx297_0 := (HB.out.cell (World.block_lt_of_cell? w _ hx297_0)).trans hx297_0
            replace hx297_1 := (HB.out.cell (World.block_lt_of_cell? w _ hx297_1)).trans hx297_1
            replace p297 := eq_true p297
            replace q297 := eq_true q297
            have p298 : 0 ≤ (x6_1 : Int) := of_decide_eq_true Z2
            have q298 : x6_1 < (l0.length : Int) := of_decide_eq_true Z2
            obtain ⟨ad298, e298, hx298_0, hx298_1⟩ := at_T36 HR0.out x6_1 p298 q298
            obtain rfl : ad296 = ad298 := (by injection e298)
            replace hx298_0 := (HB.out.cell (World.block_lt_of_cell? w _ hx298_0)).trans hx298_0
            replace hx298_1 := (HB.out.cell (World.block_lt_of_cell? w _ hx298_1)).trans hx298_1
            replace p298 := eq_true p298
            replace q298 := eq_true q298
            have p299 : 0 ≤ (x7_1 : Int) := of_decide_eq_true Z2
            have q299 : x7_1 < (l1.length : Int) := of_decide_eq_true Z2
            obtain ⟨ad299, e299, hx299_0, hx299_1⟩ := at_T36 HR1.out x7_1 p299 q299
            obtain rfl : ad297 = ad299 := (by injection e299)
            replace hx299_0 := (HB.out.cell (World.block_lt_of_cell? w _ hx299_0)).trans hx299_0
            replace hx299_1 := (HB.out.cell (World.block_lt_of_cell? w _ hx299_1)).trans hx299_1
            replace p299 := eq_true p299
            replace q299 := eq_true q299
            have p305 : 0 ≤ (x6_1 : Int) := of_decide_eq_true Z2
            have q305 : x6_1 < (l0.length : Int) := of_decide_eq_true Z2
            obtain ⟨ad305, e305, hx305_0, hx305_1⟩ := at_T36 HR0.out x6_1 p305 q305
            obtain rfl : ad296 = ad305 := (by injection e305)
            replace hx305_0 := (HB.out.cell (World.block_lt_of_cell? w _ hx305_0)).trans hx305_0
            replace hx305_1 := (HB.out.cell (World.block_lt_of_cell? w _ hx305_1)).trans hx305_1
            replace p305 := eq_true p305
            replace q305 := eq_true q305
            have p306 : 0 ≤ (x7_1 : Int) := of_decide_eq_true Z2
            have q306 : x7_1 < (l1.length : Int) := of_decide_eq_true Z2
            obtain ⟨ad306, e306, hx306_0, hx306_1⟩ := at_T36 HR1.out x7_1 p306 q306
            obtain rfl : ad297 = ad306 := (by injection e306)
            replace hx306_0 := (HB.out.cell (World.block_lt_of_cell? w _ hx306_0)).trans hx306_0
            replace hx306_1 := (HB.out.cell (World.block_lt_of_cell? w _ hx306_1)).trans hx306_1
            replace p306 := eq_true p306
            replace q306 := eq_true q306
            go_wp2
            repeat (go_quiet (fail); try go_wp2)
            go_roundg kj2
            case measure => have := HK1.out; have := HJ2.out; omega
            case rel => exact ⟨(x5_1), (wrap64 (x6_1 + 1)), (x7_1), Z4, Z4, H', ⟨by have := HK1.out; have := HJ2.out; omega⟩, ⟨Z22⟩, ⟨Z0⟩⟩
           ·rw [if_neg c17] at H
            have c17b0 := decide_eq_false c17
            clear c17
            have H' := Aside0.mk H
            clear H
            have p296 : 0 ≤ (x6_1 : Int) := of_decide_eq_true Z2
            have q296 : x6_1 < (l0.length : Int) := of_decide_eq_true Z2
            obtain ⟨ad296, e296, hx296_0, hx296_1⟩ := at_T36 HR0.out x6_1 p296 q296
            cases e296
            replace hx296_0 := (HB.out.cell (World.block_lt_of_cell? w _ hx296_0)).trans hx296_0
            replace hx296_1 := (HB.out.cell (World.block_lt_of_cell? w _ hx296_1)).trans hx296_1
            replace p296 := eq_true p296
            replace q296 := eq_true q296
            have p297 : 0 ≤ (x7_1 : Int) := of_decide_eq_true Z2
            have q297 : x7_1 < (l1.length : Int) := of_decide_eq_true Z2
            obtain ⟨ad297, e297, hx297_0, hx297_1⟩ := at_T36 HR1.out x7_1 p297 q297
            cases e297
            replace hx297_0 := (HB.out.cell (World.block_lt_of_cell? w _ hx297_0)).trans hx297_0
            replace hx297_1 := (HB.out.cell (World.block_lt_of_cell? w _ hx297_1)).trans hx297_1
            replace p297 := eq_true p297
            replace q297 := eq_true q297
            have p298 : 0 ≤ (x6_1 : Int) := of_decide_eq_true Z2
            have q298 : x6_1 < (l0.length : Int) := of_decide_eq_true Z2
            obtain ⟨ad298, e298, hx298_0, hx298_1⟩ := at_T36 HR0.out x6_1 p298 q298
            obtain rfl : ad296 = ad298 := (by injection e298)
            replace hx298_0 := (HB.out.cell (World.block_lt_of_cell? w _ hx298_0)).trans hx298_0
            replace hx298_1 := (HB.out.cell (World.block_lt_of_cell? w _ hx298_1)).trans hx298_1
            replace p298 := eq_true p298
            replace q298 := eq_true q298
            have p299 : 0 ≤ (x7_1 : Int) := of_decide_eq_true Z2
            have q299 : x7_1 < (l1.length : Int) := of_decide_eq_true Z2
            obtain ⟨ad299, e299, hx299_0, hx299_1⟩ := at_T36 HR1.out x7_1 p299 q299
            obtain rfl : ad297 = ad299 := (by injection e299)
            replace hx299_0 := (HB.out.cell (World.block_lt_of_cell? w _ hx299_0)).trans hx299_0
            replace hx299_1 := (HB.out.cell (World.block_lt_of_cell? w _ hx299_1)).trans hx299_1
            replace p299 := eq_true p299
            replace q299 := eq_true q299
            have p305 : 0 ≤ (x6_1 : Int) := of_decide_eq_true Z2
            have q305 : x6_1 < (l0.length : Int) := of_decide_eq_true Z2
            obtain ⟨ad305, e305, hx305_0, hx305_1⟩ := at_T36 HR0.out x6_1 p305 q305
            obtain rfl : ad296 = ad305 := (by injection e305)
            replace hx305_0 := (HB.out.cell (World.block_lt_of_cell? w _ hx305_0)).trans hx305_0
            replace hx305_1 := (HB.out.cell (World.block_lt_of_cell? w _ hx305_1)).trans hx305_1
            replace p305 := eq_true p305
            replace q305 := eq_true q305
            have p306 : 0 ≤ (x7_1 : Int) := of_decide_eq_true Z2
            have q306 : x7_1 < (l1.length : Int) := of_decide_eq_true Z2
            obtain ⟨ad306, e306, hx306_0, hx306_1⟩ := at_T36 HR1.out x7_1 p306 q306
            obtain rfl : ad297 = ad306 := (by injection e306)
            replace hx306_0 := (HB.out.cell (World.block_lt_of_cell? w _ hx306_0)).trans hx306_0
            replace hx306_1 := (HB.out.cell (World.block_lt_of_cell? w _ hx306_1)).trans hx306_1
            replace p306 := eq_true p306
            replace q306 := eq_true q306
            go_wp2
            repeat (go_quiet (fail); try go_wp2)
            go_roundg kj2
            case measure => have := HK1.out; have := HJ2.out; omega
            case rel => exact ⟨(x5_1), (x6_1), (wrap64 (x7_1 + 1)), Z4, Z4, H', ⟨by have := HK1.out; have := HJ2.out; omega⟩, ⟨Z22⟩, ⟨Z0⟩⟩
         ·rw [if_neg c9] at H
          exact absurd H Z23
        ·rw [if_neg c8] at H
         exact absurd H Z23
       ·rw [if_neg c7] at H
        exact absurd H Z23
      ·rw [if_neg c6] at H
       exact absurd H Z23
     ·replace c5 := Bool.eq_false_iff.mpr c5
      subst c5
      have H1 : (some x5_1) = some r := by rw [if_neg (show ¬ (false = true) by decide)] at H; exact H
      clear H
      have H := H1
      clear H1
      obtain rfl := Option.some.inj H
      go_wp2
      repeat (go_quiet (fail); try go_wp2)
      go_ret
      exact ⟨_, Z3, Z22, Z0⟩
end Go.Proofs.YtfnkboilepgmoaaDoor.R
