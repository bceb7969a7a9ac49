import Derived.Test.YtfnkboilepgmoaaDoorKPre
import Derived.Test.YtfnkboilepgmoaaDoorKax0
namespace Go.Proofs.YtfnkboilepgmoaaDoor.R
open Go.RowKit Go.Proofs.YtfnkboilepgmoaaDoorW.PrintWords Go.Proofs.YtfnkboilepgmoaaDoorW.PrintLast Go.Proofs.YtfnkboilepgmoaaDoorW.PrintMore
attribute [local go_sem] max2_int min2_int max_two min_two max_three min_three max_four min_four
set_option linter.unusedVariables false
set_option linter.unusedSimpArgs false
def runes_made.f (k : Nat) (l0 : List (S36)) : Option ((List (S36)) × Int) := (runes_merged.f k l0).bind fun t122 => (if (t122.length : Int) > 2048 then (some (([] : List (S36)), 21)) else (some (t122, 0)))
theorem runes_made.mono : ∀ a0 k, LeO (runes_made.f k a0) (runes_made.f (k + 1) a0) := by
 intro a0 k
 unfold runes_made.f
 have m0 := @runes_merged.mono
 exact mO
set_option maxHeartbeats 8000000 in
set_option maxRecDepth 100000 in
theorem runes_made.calls (k : Nat) (A0 : Option Addr) (c0 : Nat) (l0 : List (S36)) (r1 : List (S36)) (r2 : Int) (w : World) (hr0 : Kd.C k36 w A0 l0.length l0) (hc0 : l0.length ≤ c0) (h : runes_made.f k l0 = some (r1, r2)) :
  Calls Tryd.prog 41 #[.slice A0 l0.length c0] w fun e w' => ∃ v0_ : Value, e = .returned (.tuple #[v0_, .int .i64 r2]) ∧ Kd.R k36 36 w' w.heap.size (fun _ => True) v0_ r1 ∧ Below w.heap.size w w' := by
 have HR0 := Aside0.mk hr0
 have HC0 := Aside0.mk hc0
 clear hr0 hc0
 have HB := Aside0.mk (Below.refl w.heap.size w)
 have H : ((runes_merged.f k l0).bind fun t122 => (if (t122.length : Int) > 2048 then (some (([] : List (S36)), 21)) else (some (t122, 0)))) = some (r1, r2) := h
 clear h
 replace H := bS H
 obtain ⟨t122, A2, H⟩ := H
 try dsimp only at H
 by_cases c3 : (t122.length : Int) > 2048
 ·rw [if_pos c3] at H
  have c3b0 : decide (2048 < (t122.length : Int)) = true := decide_eq_true c3
  have c3b1 : decide (2048 < t122.length) = true := decide_eq_true Z16
  clear c3
  simp only [Option.some.injEq, Prod.mk.injEq] at H
  obtain ⟨rfl, rfl⟩ := H
  go_enter Tryd.func41, Tryd.ntmps41
  go_wp2_with (first | ((with_reducible refine gC 64 rfl ?_); refine goesL_ (some 6) rfl rfl Tryd.func64 Z14 rfl #[.slice A0 l0.length c0] rfl Z6 ?_; (with_reducible refine (runes_merged.calls k _ _ l0 t122 _ ?side1 ?side2 A2.out).mono ?_); (case side1 => repeat (first | exact HR0.out | (with_reducible refine Kd.C_alloc ?_ _) | (with_reducible refine Kd.C_drewN ?_ _) | (with_reducible refine Kd.C_drew ?_))); (case side2 => exact HC0.out); rintro e w4 ⟨v123, rfl, ho0, hb⟩; refine ⟨_, rfl, ?_⟩; have HO124 := Aside0.mk (Kd.R_lower ho0 (below_size zB)); replace HB := Aside0.mk (below_step zB hb); (try clear hb); (try clear hb2); (try clear hk); (try clear hi); (try clear ho0); obtain ⟨Ao5, co5, eo5⟩ := Kd.R_slice HO124.out; subst eo5))
  go_ret2
  exact ⟨_, Z5, Z12, Z1⟩
 ·rw [if_neg c3] at H
  have c3b0 : decide (2048 < (t122.length : Int)) = false := decide_eq_false c3
  have c3b1 : decide (2048 < t122.length) = false := decide_eq_false Z16
  clear c3
  simp only [Option.some.injEq, Prod.mk.injEq] at H
  obtain ⟨rfl, rfl⟩ := H
  go_enter Tryd.func41, Tryd.ntmps41
  go_wp2_with (first | ((with_reducible refine gC 64 rfl ?_); refine goesL_ (some 6) rfl rfl Tryd.func64 Z14 rfl #[.slice A0 l0.length c0] rfl Z6 ?_; (with_reducible refine (runes_merged.calls k _ _ l0 t122 _ ?side1 ?side2 A2.out).mono ?_); (case side1 => repeat (first | exact HR0.out | (with_reducible refine Kd.C_alloc ?_ _) | (with_reducible refine Kd.C_drewN ?_ _) | (with_reducible refine Kd.C_drew ?_))); (case side2 => exact HC0.out); rintro e w6 ⟨v123, rfl, ho0, hb⟩; refine ⟨_, rfl, ?_⟩; have HO124 := Aside0.mk (Kd.R_lower ho0 (below_size zB)); replace HB := Aside0.mk (below_step zB hb); (try clear hb); (try clear hb2); (try clear hk); (try clear hi); (try clear ho0); obtain ⟨Ao7, co7, eo7⟩ := Kd.R_slice HO124.out; subst eo7))
  go_ret2
  exact ⟨_, Z5, by (with_reducible repeat (first | apply Kd.R_alloc | apply Kd.R_drewN | apply Kd.R_drew)); exact HO124.out, Z1⟩
def runes_Of.l0 : Nat → List (S36) → List (S36) → Int → Int → Option ((List (S36)) × Int)
 | 0, _, _, _, _ => none
 | k + 1, x0, x6, x7, x8 => if x8 < x7 then (if 0 ≤ x8 then (if x8 < (x6.length : Int) then (if ((rd_T36 x6 x8).f0) < 0 then (some (([] : List (S36)), 1)) else (if ((rd_T36 x6 x8).f1) > 1114111 then (some (([] : List (S36)), 1)) else (if ((rd_T36 x6 x8).f0) > ((rd_T36 x6 x8).f1) then (some (([] : List (S36)), 1)) else (runes_Of.l0 k x0 x6 x7 (wrap64 (x8 + 1)))))) else (none)) else (none)) else ((runes_made.f k x0).bind fun bt127 => (some (bt127.1, bt127.2)))
def runes_Of.f (k : Nat) (l0 : List (S36)) : Option ((List (S36)) × Int) := runes_Of.l0 k l0 l0 (l0.length : Int) 0
theorem runes_Of.mono_l : ∀ k, (∀ y0 y1 y2 y3, LeO (runes_Of.l0 k y0 y1 y2 y3) (runes_Of.l0 (k + 1) y0 y1 y2 y3))
 | 0 => fun _ _ _ _ r h => by simp [runes_Of.l0] at h
 | k + 1 => by
  have ih0 := runes_Of.mono_l k
  ·intro y0 y1 y2 y3
   unfold runes_Of.l0
   have m0 := @runes_made.mono
   exact mO
theorem runes_Of.mono : ∀ a0 k, LeO (runes_Of.f k a0) (runes_Of.f (k + 1) a0) := by
 intro a0 k
 have ih0 := runes_Of.mono_l k
 unfold runes_Of.f
 have m0 := @runes_made.mono
 exact mO
set_option maxHeartbeats 8000000 in
set_option maxRecDepth 100000 in
theorem runes_Of.calls (k : Nat) (A0 : Option Addr) (c0 : Nat) (l0 : List (S36)) (r1 : List (S36)) (r2 : Int) (w : World) (hr0 : Kd.C k36 w A0 l0.length l0) (hc0 : l0.length ≤ c0) (h : runes_Of.f k l0 = some (r1, r2)) :
  Calls Tryd.prog 13 #[.slice A0 l0.length c0] w fun e w' => ∃ v0_ : Value, e = .returned (.tuple #[v0_, .int .i64 r2]) ∧ Kd.R k36 36 w' w.heap.size (fun _ => True) v0_ r1 ∧ Below w.heap.size w w' := by
 have hu36 := Tryd.underlying36
 have HR0 := Aside0.mk hr0
 have HC0 := Aside0.mk hc0
 clear hr0 hc0
 have HB := Aside0.mk (Below.refl w.heap.size w)
 have H : (runes_Of.l0 k l0 l0 (l0.length : Int) 0) = some (r1, r2) := h
 clear h
 have H' := Aside0.mk H
 clear H
 go_enter Tryd.func13, Tryd.ntmps13
 go_wp2
 go_loopg [8] k (fun kq v8 w' => ∃ (x8_1 : Int), v8 = .int .i64 x8_1 ∧ Aside0 (runes_Of.l0 kq l0 l0 (l0.length : Int) x8_1 = some (r1, r2)) ∧ Aside0 (kq ≤ k) ∧ Aside0 (Below w.heap.size w w'))
 case atStart => exact ⟨(0), Z7, H', ⟨Nat.le_refl _⟩, ⟨Z1⟩⟩
 case round =>
  clear H'
  try clear c1
  obtain ⟨x8_1, rfl, HA, HK1, HB⟩ := hrel
  cases gk with
  | zero => exact absurd HA.out (by simp [runes_Of.l0])
  | succ k1 =>
   have H := HA.out
   clear HA
   simp only [runes_Of.l0] at H
   by_cases c2 : x8_1 < (l0.length : Int)
   ·rw [if_pos c2] at H
    have c2b0 := decide_eq_true c2
    clear c2
    by_cases c3 : 0 ≤ x8_1
    ·rw [if_pos c3] at H
     have c3b0 := decide_eq_true c3
     clear c3
     by_cases c4 : x8_1 < (l0.length : Int)
     ·rw [if_pos c4] at H
      have c4b0 := decide_eq_true c4
      clear c4
      by_cases c5 : ((rd_T36 l0 x8_1).f0) < 0
      ·rw [if_pos c5] at H
       have c5b0 := decide_eq_true c5
       clear c5
       simp only [Option.some.injEq, Prod.mk.injEq] at H
       obtain ⟨rfl, rfl⟩ := H
       have p125 : 0 ≤ (x8_1 : Int) := of_decide_eq_true Z4
       have q125 : x8_1 < (l0.length : Int) := of_decide_eq_true Z4
       obtain ⟨ad125, e125, hx125_0, hx125_1⟩ := at_T36 HR0.out x8_1 p125 q125
       cases e125
       replace hx125_0 := (HB.out.cell (World.block_lt_of_cell? w _ hx125_0)).trans hx125_0
       replace hx125_1 := (HB.out.cell (World.block_lt_of_cell? w _ hx125_1)).trans hx125_1
       replace p125 := eq_true p125
       replace q125 := eq_true q125
       go_wp2_with (first | ((with_reducible refine gate_dst (N := 5) rfl ?_); refine box_event ?hg (N := 5) ?hd (cs := #[.int .i32 0, .int .i32 0]) (t := 36) ?hr ?_; (case hd => rfl); (case hg => rfl); (case hr => first | (go_simp; done) | (go_simp; rfl)); intro gb126 hg w6 hbox hb; have BK126 := Aside0.mk (hbox); have GW126 := gE hg zB; have GE126 := gE hg zB; replace HB := Aside0.mk (below_step zB hb); clear hb hbox hg; have hcz7_0 := bC BK126 0 (.int .i32 0); have hcz7_1 := bC BK126 1 (.int .i32 0); have hfz7_0 := blk_frozen BK126.out 0; have hfz7_1 := blk_frozen BK126.out 1))
       go_ret2
       exact ⟨_, Z5, Z12, Z1⟩
      ·rw [if_neg c5] at H
       have c5b0 := decide_eq_false c5
       clear c5
       by_cases c8 : ((rd_T36 l0 x8_1).f1) > 1114111
       ·rw [if_pos c8] at H
        have c8b0 : decide (1114111 < ((rd_T36 l0 x8_1).f1)) = true := decide_eq_true c8
        clear c8
        simp only [Option.some.injEq, Prod.mk.injEq] at H
        obtain ⟨rfl, rfl⟩ := H
        have p125 : 0 ≤ (x8_1 : Int) := of_decide_eq_true Z4
        have q125 : x8_1 < (l0.length : Int) := of_decide_eq_true Z4
        obtain ⟨ad125, e125, hx125_0, hx125_1⟩ := at_T36 HR0.out x8_1 p125 q125
        cases e125
        replace hx125_0 := (HB.out.cell (World.block_lt_of_cell? w _ hx125_0)).trans hx125_0
        replace hx125_1 := (HB.out.cell (World.block_lt_of_cell? w _ hx125_1)).trans hx125_1
        replace p125 := eq_true p125
        replace q125 := eq_true q125
        go_wp2_with (first | ((with_reducible refine gate_dst (N := 5) rfl ?_); refine box_event ?hg (N := 5) ?hd (cs := #[.int .i32 0, .int .i32 0]) (t := 36) ?hr ?_; (case hd => rfl); (case hg => rfl); (case hr => first | (go_simp; done) | (go_simp; rfl)); intro gb126 hg w9 hbox hb; have BK126 := Aside0.mk (hbox); have GW126 := gE hg zB; have GE126 := gE hg zB; replace HB := Aside0.mk (below_step zB hb); clear hb hbox hg; have hcz10_0 := bC BK126 0 (.int .i32 0); have hcz10_1 := bC BK126 1 (.int .i32 0); have hfz10_0 := blk_frozen BK126.out 0; have hfz10_1 := blk_frozen BK126.out 1))
        go_ret2
        exact ⟨_, Z5, Z12, Z1⟩
       ·rw [if_neg c8] at H
        have c8b0 : decide (1114111 < ((rd_T36 l0 x8_1).f1)) = false := decide_eq_false c8
        clear c8
        by_cases c11 : ((rd_T36 l0 x8_1).f0) > ((rd_T36 l0 x8_1).f1)
        ·rw [if_pos c11] at H
         have c11b0 : decide (((rd_T36 l0 x8_1).f1) < ((rd_T36 l0 x8_1).f0)) = true := decide_eq_true c11
         clear c11
         simp only [Option.some.injEq, Prod.mk.injEq] at H
         obtain ⟨rfl, rfl⟩ := H
         have p125 : 0 ≤ (x8_1 : Int) := of_decide_eq_true Z4
         have q125 : x8_1 < (l0.length : Int) := of_decide_eq_true Z4
         obtain ⟨ad125, e125, hx125_0, hx125_1⟩ := at_T36 HR0.out x8_1 p125 q125
         cases e125
         replace hx125_0 := (HB.out.cell (World.block_lt_of_cell? w _ hx125_0)).trans hx125_0
         replace hx125_1 := (HB.out.cell (World.block_lt_of_cell? w _ hx125_1)).trans hx125_1
         replace p125 := eq_true p125
         replace q125 := eq_true q125
         go_wp2_with (first | ((with_reducible refine gate_dst (N := 5) rfl ?_); refine box_event ?hg (N := 5) ?hd (cs := #[.int .i32 0, .int .i32 0]) (t := 36) ?hr ?_; (case hd => rfl); (case hg => rfl); (case hr => first | (go_simp; done) | (go_simp; rfl)); intro gb126 hg w12 hbox hb; have BK126 := Aside0.mk (hbox); have GW126 := gE hg zB; have GE126 := gE hg zB; replace HB := Aside0.mk (below_step zB hb); clear hb hbox hg; have hcz13_0 := bC BK126 0 (.int .i32 0); have hcz13_1 := bC BK126 1 (.int .i32 0); have hfz13_0 := blk_frozen BK126.out 0; have hfz13_1 := blk_frozen BK126.out 1))
         go_ret2
         exact ⟨_, Z5, Z12, Z1⟩
        ·rw [if_neg c11] at H
         have c11b0 : decide (((rd_T36 l0 x8_1).f1) < ((rd_T36 l0 x8_1).f0)) = false := decide_eq_false c11
         clear c11
         have H' := Aside0.mk H
         clear H
         have p125 : 0 ≤ (x8_1 : Int) := of_decide_eq_true Z4
         have q125 : x8_1 < (l0.length : Int) := of_decide_eq_true Z4
         obtain ⟨ad125, e125, hx125_0, hx125_1⟩ := at_T36 HR0.out x8_1 p125 q125
         cases e125
         replace hx125_0 := (HB.out.cell (World.block_lt_of_cell? w _ hx125_0)).trans hx125_0
         replace hx125_1 := (HB.out.cell (World.block_lt_of_cell? w _ hx125_1)).trans hx125_1
         replace p125 := eq_true p125
         replace q125 := eq_true q125
         go_wp2_with (first | ((with_reducible refine gate_dst (N := 5) rfl ?_); refine box_event ?hg (N := 5) ?hd (cs := #[.int .i32 0, .int .i32 0]) (t := 36) ?hr ?_; (case hd => rfl); (case hg => rfl); (case hr => first | (go_simp; done) | (go_simp; rfl)); intro gb126 hg w14 hbox hb; have BK126 := Aside0.mk (hbox); have GW126 := gE hg zB; have GE126 := gE hg zB; replace HB := Aside0.mk (below_step zB hb); clear hb hbox hg; have hcz15_0 := bC BK126 0 (.int .i32 0); have hcz15_1 := bC BK126 1 (.int .i32 0); have hfz15_0 := blk_frozen BK126.out 0; have hfz15_1 := blk_frozen BK126.out 1))
         go_roundg k1
         case measure => have := HK1.out; omega
         case rel => exact ⟨(wrap64 (x8_1 + 1)), Z7, H', ⟨Z22⟩, ⟨Z1⟩⟩
     ·rw [if_neg c4] at H
      exact absurd H Z21
    ·rw [if_neg c3] at H
     exact absurd H Z21
   ·rw [if_neg c2] at H
    have c2b0 := decide_eq_false c2
    clear c2
    replace H := bS H
    obtain ⟨⟨t127, t128⟩, A16, H⟩ := H
    try dsimp only at H
    simp only [Option.some.injEq, Prod.mk.injEq] at H
    obtain ⟨rfl, rfl⟩ := H
    go_wp2_with (first | ((with_reducible refine gC 41 rfl ?_); refine goesL_ (some 29) rfl rfl Tryd.func41 Z14 rfl #[.slice A0 l0.length c0] rfl Z6 ?_; (with_reducible refine (runes_made.calls k1 _ _ l0 t127 t128 _ ?side1 ?side2 A16.out).mono ?_); (case side1 => repeat (first | exact (Kd.C_below HR0.out HB.out) | (with_reducible refine Kd.C_alloc ?_ _) | (with_reducible refine Kd.C_drewN ?_ _) | (with_reducible refine Kd.C_drew ?_))); (case side2 => exact HC0.out); rintro e w17 ⟨v129, rfl, ho0, hb⟩; refine ⟨_, rfl, ?_⟩; have HO130 := Aside0.mk (Kd.R_lower ho0 (below_size zB)); replace HB := Aside0.mk (below_step zB hb); (try clear hb); (try clear hb2); (try clear hk); (try clear hi); (try clear ho0)))
    go_ret2
    exact ⟨_, Z5, by (with_reducible repeat (first | apply Kd.R_alloc | apply Kd.R_drewN | apply Kd.R_drew)); exact HO130.out, Z1⟩
def runes_Has.l0 : Nat → Int → List (S36) → Int → Int → Option (Bool)
 | 0, _, _, _, _ => none
 | k + 1, x1, x7, x8, x9 => if x9 < x8 then (if 0 ≤ x9 then (if x9 < (x7.length : Int) then (if ((rd_T36 x7 x9).f0) ≤ x1 then (if x1 ≤ ((rd_T36 x7 x9).f1) then (some true) else (runes_Has.l0 k x1 x7 x8 (wrap64 (x9 + 1)))) else (runes_Has.l0 k x1 x7 x8 (wrap64 (x9 + 1)))) else (none)) else (none)) else (some false)
def runes_Has.f (k : Nat) (l0 : List (S36)) (a1 : Int) : Option (Bool) := runes_Has.l0 k a1 l0 (l0.length : Int) 0
theorem runes_Has.mono_l : ∀ k, (∀ y0 y1 y2 y3, LeO (runes_Has.l0 k y0 y1 y2 y3) (runes_Has.l0 (k + 1) y0 y1 y2 y3))
 | 0 => fun _ _ _ _ r h => by simp [runes_Has.l0] at h
 | k + 1 => by
  have ih0 := runes_Has.mono_l k
  ·intro y0 y1 y2 y3
   unfold runes_Has.l0
   exact mO
theorem runes_Has.mono : ∀ a0 a1 k, LeO (runes_Has.f k a0 a1) (runes_Has.f (k + 1) a0 a1) := by
 intro a0 a1 k
 have ih0 := runes_Has.mono_l k
 unfold runes_Has.f
 exact mO
set_option maxHeartbeats 8000000 in
set_option maxRecDepth 100000 in
theorem runes_Has.calls (k : Nat) (A0 : Option Addr) (c0 : Nat) (l0 : List (S36)) (a1 : Int) (r : Bool) (w : World) (hr0 : Kd.C k36 w A0 l0.length l0) (hc0 : l0.length ≤ c0) (h : runes_Has.f k l0 a1 = some r) :
  Calls Tryd.prog 33 #[.slice A0 l0.length c0, .int .i32 a1] w fun e w' => e = .returned (.bool r) ∧ Below w.heap.size w w' := by
 have hu36 := Tryd.underlying36
 have HR0 := Aside0.mk hr0
 have HC0 := Aside0.mk hc0
 clear hr0 hc0
 have HB := Aside0.mk (Below.refl w.heap.size w)
 have H : (runes_Has.l0 k a1 l0 (l0.length : Int) 0) = some r := h
 clear h
 have H' := Aside0.mk H
 clear H
 go_enter Tryd.func33, Tryd.ntmps33
 go_wp2
 go_loopg [9] k (fun kq v9 w' => ∃ (x9_1 : Int), v9 = .int .i64 x9_1 ∧ Aside0 (runes_Has.l0 kq a1 l0 (l0.length : Int) x9_1 = some r) ∧ Aside0 (kq ≤ k) ∧ Aside0 (Below w.heap.size w w'))
 case atStart => exact ⟨(0), Z7, H', ⟨Nat.le_refl _⟩, ⟨Z1⟩⟩
 case round =>
  clear H'
  try clear p2
  obtain ⟨x9_1, rfl, HA, HK1, HB⟩ := hrel
  cases gk with
  | zero => exact absurd HA.out (by simp [runes_Has.l0])
  | succ k1 =>
   have H := HA.out
   clear HA
   simp only [runes_Has.l0] at H
   by_cases c3 : x9_1 < (l0.length : Int)
   ·rw [if_pos c3] at H
    have c3b0 := decide_eq_true c3
    clear c3
    by_cases c4 : 0 ≤ x9_1
    ·rw [if_pos c4] at H
     have c4b0 := decide_eq_true c4
     clear c4
     by_cases c5 : x9_1 < (l0.length : Int)
     ·rw [if_pos c5] at H
      have c5b0 := decide_eq_true c5
      clear c5
      by_cases c6 : ((rd_T36 l0 x9_1).f0) ≤ a1
      ·rw [if_pos c6] at H
       have c6b0 := decide_eq_true c6
       clear c6
       by_cases c7 : a1 ≤ ((rd_T36 l0 x9_1).f1)
       ·rw [if_pos c7] at H
        have c7b0 := decide_eq_true c7
        clear c7
        obtain rfl := Option.some.inj H
        have p131 : 0 ≤ (x9_1 : Int) := of_decide_eq_true Z4
        have q131 : x9_1 < (l0.length : Int) := of_decide_eq_true Z4
        obtain ⟨ad131, e131, hx131_0, hx131_1⟩ := at_T36 HR0.out x9_1 p131 q131
        cases e131
        replace hx131_0 := (HB.out.cell (World.block_lt_of_cell? w _ hx131_0)).trans hx131_0
        replace hx131_1 := (HB.out.cell (World.block_lt_of_cell? w _ hx131_1)).trans hx131_1
        replace p131 := eq_true p131
        replace q131 := eq_true q131
        go_wp2_with (first | ((with_reducible refine gate_dst (N := 6) rfl ?_); refine box_event ?hg (N := 6) ?hd (cs := #[.int .i32 0, .int .i32 0]) (t := 36) ?hr ?_; (case hd => rfl); (case hg => rfl); (case hr => first | (go_simp; done) | (go_simp; rfl)); intro gb132 hg w8 hbox hb; have BK132 := Aside0.mk (hbox); have GW132 := gE hg zB; have GE132 := gE hg zB; replace HB := Aside0.mk (below_step zB hb); clear hb hbox hg; have hcz9_0 := bC BK132 0 (.int .i32 0); have hcz9_1 := bC BK132 1 (.int .i32 0); have hfz9_0 := blk_frozen BK132.out 0; have hfz9_1 := blk_frozen BK132.out 1))
        go_ret
        exact ⟨Z5, Z1⟩
       ·rw [if_neg c7] at H
        have c7b0 := decide_eq_false c7
        clear c7
        have H' := Aside0.mk H
        clear H
        have p131 : 0 ≤ (x9_1 : Int) := of_decide_eq_true Z4
        have q131 : x9_1 < (l0.length : Int) := of_decide_eq_true Z4
        obtain ⟨ad131, e131, hx131_0, hx131_1⟩ := at_T36 HR0.out x9_1 p131 q131
        cases e131
        replace hx131_0 := (HB.out.cell (World.block_lt_of_cell? w _ hx131_0)).trans hx131_0
        replace hx131_1 := (HB.out.cell (World.block_lt_of_cell? w _ hx131_1)).trans hx131_1
        replace p131 := eq_true p131
        replace q131 := eq_true q131
        go_wp2_with (first | ((with_reducible refine gate_dst (N := 6) rfl ?_); refine box_event ?hg (N := 6) ?hd (cs := #[.int .i32 0, .int .i32 0]) (t := 36) ?hr ?_; (case hd => rfl); (case hg => rfl); (case hr => first | (go_simp; done) | (go_simp; rfl)); intro gb132 hg w10 hbox hb; have BK132 := Aside0.mk (hbox); have GW132 := gE hg zB; have GE132 := gE hg zB; replace HB := Aside0.mk (below_step zB hb); clear hb hbox hg; have hcz11_0 := bC BK132 0 (.int .i32 0); have hcz11_1 := bC BK132 1 (.int .i32 0); have hfz11_0 := blk_frozen BK132.out 0; have hfz11_1 := blk_frozen BK132.out 1))
        go_roundg k1
        case measure => have := HK1.out; omega
        case rel => exact ⟨(wrap64 (x9_1 + 1)), Z7, H', ⟨Z22⟩, ⟨Z1⟩⟩
      ·rw [if_neg c6] at H
       have c6b0 := decide_eq_false c6
       clear c6
       have H' := Aside0.mk H
       clear H
       have p131 : 0 ≤ (x9_1 : Int) := of_decide_eq_true Z4
       have q131 : x9_1 < (l0.length : Int) := of_decide_eq_true Z4
       obtain ⟨ad131, e131, hx131_0, hx131_1⟩ := at_T36 HR0.out x9_1 p131 q131
       cases e131
       replace hx131_0 := (HB.out.cell (World.block_lt_of_cell? w _ hx131_0)).trans hx131_0
       replace hx131_1 := (HB.out.cell (World.block_lt_of_cell? w _ hx131_1)).trans hx131_1
       replace p131 := eq_true p131
       replace q131 := eq_true q131
       go_wp2_with (first | ((with_reducible refine gate_dst (N := 6) rfl ?_); refine box_event ?hg (N := 6) ?hd (cs := #[.int .i32 0, .int .i32 0]) (t := 36) ?hr ?_; (case hd => rfl); (case hg => rfl); (case hr => first | (go_simp; done) | (go_simp; rfl)); intro gb132 hg w12 hbox hb; have BK132 := Aside0.mk (hbox); have GW132 := gE hg zB; have GE132 := gE hg zB; replace HB := Aside0.mk (below_step zB hb); clear hb hbox hg; have hcz13_0 := bC BK132 0 (.int .i32 0); have hcz13_1 := bC BK132 1 (.int .i32 0); have hfz13_0 := blk_frozen BK132.out 0; have hfz13_1 := blk_frozen BK132.out 1))
       go_roundg k1
       case measure => have := HK1.out; omega
       case rel => exact ⟨(wrap64 (x9_1 + 1)), Z7, H', ⟨Z22⟩, ⟨Z1⟩⟩
     ·rw [if_neg c5] at H
      exact absurd H Z21
    ·rw [if_neg c4] at H
     exact absurd H Z21
   ·rw [if_neg c3] at H
    have c3b0 := decide_eq_false c3
    clear c3
    obtain rfl := Option.some.inj H
    go_wp2
    go_ret
    exact ⟨Z5, Z1⟩
def runes_Check.l0 : Nat → List (S36) → List (S36) → Int → Int → Option (Int)
 | 0, _, _, _, _ => none
 | k + 1, x0, x5, x6, x7 => if x7 < x6 then (if 0 ≤ x7 then (if x7 < (x5.length : Int) then (if ((rd_T36 x5 x7).f0) < 0 then (some 20) else (if ((rd_T36 x5 x7).f1) > 1114111 then (some 20) else (if ((rd_T36 x5 x7).f0) > ((rd_T36 x5 x7).f1) then (some 20) else (if x7 > 0 then (if 0 ≤ (wrap64 (x7 - 1)) then (if (wrap64 (x7 - 1)) < (x0.length : Int) then (if (wrap32 (((rd_T36 x5 x7).f0) - 1)) ≤ ((rd_T36 x0 (wrap64 (x7 - 1))).f1) then (some 20) else (runes_Check.l0 k x0 x5 x6 (wrap64 (x7 + 1)))) else (none)) else (none)) else (runes_Check.l0 k x0 x5 x6 (wrap64 (x7 + 1))))))) else (none)) else (none)) else (if (x0.length : Int) > 2048 then (some 21) else (some 0))
def runes_Check.f (k : Nat) (l0 : List (S36)) : Option (Int) := runes_Check.l0 k l0 l0 (l0.length : Int) 0
theorem runes_Check.mono_l : ∀ k, (∀ y0 y1 y2 y3, LeO (runes_Check.l0 k y0 y1 y2 y3) (runes_Check.l0 (k + 1) y0 y1 y2 y3))
 | 0 => fun _ _ _ _ r h => by simp [runes_Check.l0] at h
 | k + 1 => by
  have ih0 := runes_Check.mono_l k
  ·intro y0 y1 y2 y3
   unfold runes_Check.l0
   exact mO
theorem runes_Check.mono : ∀ a0 k, LeO (runes_Check.f k a0) (runes_Check.f (k + 1) a0) := by
 intro a0 k
 have ih0 := runes_Check.mono_l k
 unfold runes_Check.f
 exact mO
set_option maxHeartbeats 8000000 in
set_option maxRecDepth 100000 in
theorem runes_Check.calls (k : Nat) (A0 : Option Addr) (c0 : Nat) (l0 : List (S36)) (r : Int) (w : World) (hr0 : Kd.C k36 w A0 l0.length l0) (hc0 : l0.length ≤ c0) (h : runes_Check.f k l0 = some r) :
  Calls Tryd.prog 17 #[.slice A0 l0.length c0] w fun e w' => e = .returned (.int .i64 r) ∧ Below w.heap.size w w' := by
 have hu36 := Tryd.underlying36
 have HR0 := Aside0.mk hr0
 have HC0 := Aside0.mk hc0
 clear hr0 hc0
 have HB := Aside0.mk (Below.refl w.heap.size w)
 have H : (runes_Check.l0 k l0 l0 (l0.length : Int) 0) = some r := h
 clear h
 have H' := Aside0.mk H
 clear H
 go_enter Tryd.func17, Tryd.ntmps17
 go_wp2
 repeat (go_quiet (fail); try go_wp2)
 go_loopg [7] k (fun kq v7 w' => ∃ (x7_1 : Int), v7 = .int .i64 x7_1 ∧ Aside0 (runes_Check.l0 kq l0 l0 (l0.length : Int) x7_1 = some r) ∧ Aside0 (kq ≤ k) ∧ Aside0 (Below w.heap.size w w'))
 case atStart => exact ⟨(0), Z7, H', ⟨Nat.le_refl _⟩, ⟨Z1⟩⟩
 case round =>
  clear H'
  try clear c1
  obtain ⟨x7_1, rfl, HA, HK1, HB⟩ := hrel
  cases gk with
  | zero => exact absurd HA.out (by simp [runes_Check.l0])
  | succ k1 =>
   have H := HA.out
   clear HA
   simp only [runes_Check.l0] at H
   by_cases c2 : x7_1 < (l0.length : Int)
   ·rw [if_pos c2] at H
    have c2b0 := decide_eq_true c2
    clear c2
    by_cases c3 : 0 ≤ x7_1
    ·rw [if_pos c3] at H
     have c3b0 := decide_eq_true c3
     clear c3
     by_cases c4 : x7_1 < (l0.length : Int)
     ·rw [if_pos c4] at H
      have c4b0 := decide_eq_true c4
      clear c4
      by_cases c5 : ((rd_T36 l0 x7_1).f0) < 0
      ·rw [if_pos c5] at H
       have c5b0 := decide_eq_true c5
       clear c5
       obtain rfl := Option.some.inj H
       have p133 : 0 ≤ (x7_1 : Int) := of_decide_eq_true Z4
       have q133 : x7_1 < (l0.length : Int) := of_decide_eq_true Z4
       obtain ⟨ad133, e133, hx133_0, hx133_1⟩ := at_T36 HR0.out x7_1 p133 q133
       cases e133
       replace hx133_0 := (HB.out.cell (World.block_lt_of_cell? w _ hx133_0)).trans hx133_0
       replace hx133_1 := (HB.out.cell (World.block_lt_of_cell? w _ hx133_1)).trans hx133_1
       replace p133 := eq_true p133
       replace q133 := eq_true q133
       go_wp2_with (first | ((with_reducible refine gate_dst (N := 4) rfl ?_); refine box_event ?hg (N := 4) ?hd (cs := #[.int .i32 0, .int .i32 0]) (t := 36) ?hr ?_; (case hd => rfl); (case hg => rfl); (case hr => first | (go_simp; done) | (go_simp; rfl)); intro gb134 hg w6 hbox hb; have BK134 := Aside0.mk (hbox); have GW134 := gE hg zB; have GE134 := gE hg zB; replace HB := Aside0.mk (below_step zB hb); clear hb hbox hg; have hcz7_0 := bC BK134 0 (.int .i32 0); have hcz7_1 := bC BK134 1 (.int .i32 0); have hfz7_0 := blk_frozen BK134.out 0; have hfz7_1 := blk_frozen BK134.out 1))
       repeat (go_quiet (first | ((with_reducible refine gate_dst (N := 4) rfl ?_); refine box_event ?hg (N := 4) ?hd (cs := #[.int .i32 0, .int .i32 0]) (t := 36) ?hr ?_; (case hd => rfl); (case hg => rfl); (case hr => first | (go_simp; done) | (go_simp; rfl)); intro gb134 hg w6 hbox hb; have BK134 := Aside0.mk (hbox); have GW134 := gE hg zB; have GE134 := gE hg zB; replace HB := Aside0.mk (below_step zB hb); clear hb hbox hg; have hcz7_0 := bC BK134 0 (.int .i32 0); have hcz7_1 := bC BK134 1 (.int .i32 0); have hfz7_0 := blk_frozen BK134.out 0; have hfz7_1 := blk_frozen BK134.out 1)); try go_wp2_with (first | ((with_reducible refine gate_dst (N := 4) rfl ?_); refine box_event ?hg (N := 4) ?hd (cs := #[.int .i32 0, .int .i32 0]) (t := 36) ?hr ?_; (case hd => rfl); (case hg => rfl); (case hr => first | (go_simp; done) | (go_simp; rfl)); intro gb134 hg w6 hbox hb; have BK134 := Aside0.mk (hbox); have GW134 := gE hg zB; have GE134 := gE hg zB; replace HB := Aside0.mk (below_step zB hb); clear hb hbox hg; have hcz7_0 := bC BK134 0 (.int .i32 0); have hcz7_1 := bC BK134 1 (.int .i32 0); have hfz7_0 := blk_frozen BK134.out 0; have hfz7_1 := blk_frozen BK134.out 1)))
       go_ret
       exact ⟨Z5, Z1⟩
      ·rw [if_neg c5] at H
       have c5b0 := decide_eq_false c5
       clear c5
       by_cases c8 : ((rd_T36 l0 x7_1).f1) > 1114111
       ·rw [if_pos c8] at H
        have c8b0 : decide (1114111 < ((rd_T36 l0 x7_1).f1)) = true := decide_eq_true c8
        clear c8
        obtain rfl := Option.some.inj H
        have p133 : 0 ≤ (x7_1 : Int) := of_decide_eq_true Z4
        have q133 : x7_1 < (l0.length : Int) := of_decide_eq_true Z4
        obtain ⟨ad133, e133, hx133_0, hx133_1⟩ := at_T36 HR0.out x7_1 p133 q133
        cases e133
        replace hx133_0 := (HB.out.cell (World.block_lt_of_cell? w _ hx133_0)).trans hx133_0
        replace hx133_1 := (HB.out.cell (World.block_lt_of_cell? w _ hx133_1)).trans hx133_1
        replace p133 := eq_true p133
        replace q133 := eq_true q133
        go_wp2_with (first | ((with_reducible refine gate_dst (N := 4) rfl ?_); refine box_event ?hg (N := 4) ?hd (cs := #[.int .i32 0, .int .i32 0]) (t := 36) ?hr ?_; (case hd => rfl); (case hg => rfl); (case hr => first | (go_simp; done) | (go_simp; rfl)); intro gb134 hg w9 hbox hb; have BK134 := Aside0.mk (hbox); have GW134 := gE hg zB; have GE134 := gE hg zB; replace HB := Aside0.mk (below_step zB hb); clear hb hbox hg; have hcz10_0 := bC BK134 0 (.int .i32 0); have hcz10_1 := bC BK134 1 (.int .i32 0); have hfz10_0 := blk_frozen BK134.out 0; have hfz10_1 := blk_frozen BK134.out 1))
        repeat (go_quiet (first | ((with_reducible refine gate_dst (N := 4) rfl ?_); refine box_event ?hg (N := 4) ?hd (cs := #[.int .i32 0, .int .i32 0]) (t := 36) ?hr ?_; (case hd => rfl); (case hg => rfl); (case hr => first | (go_simp; done) | (go_simp; rfl)); intro gb134 hg w9 hbox hb; have BK134 := Aside0.mk (hbox); have GW134 := gE hg zB; have GE134 := gE hg zB; replace HB := Aside0.mk (below_step zB hb); clear hb hbox hg; have hcz10_0 := bC BK134 0 (.int .i32 0); have hcz10_1 := bC BK134 1 (.int .i32 0); have hfz10_0 := blk_frozen BK134.out 0; have hfz10_1 := blk_frozen BK134.out 1)); try go_wp2_with (first | ((with_reducible refine gate_dst (N := 4) rfl ?_); refine box_event ?hg (N := 4) ?hd (cs := #[.int .i32 0, .int .i32 0]) (t := 36) ?hr ?_; (case hd => rfl); (case hg => rfl); (case hr => first | (go_simp; done) | (go_simp; rfl)); intro gb134 hg w9 hbox hb; have BK134 := Aside0.mk (hbox); have GW134 := gE hg zB; have GE134 := gE hg zB; replace HB := Aside0.mk (below_step zB hb); clear hb hbox hg; have hcz10_0 := bC BK134 0 (.int .i32 0); have hcz10_1 := bC BK134 1 (.int .i32 0); have hfz10_0 := blk_frozen BK134.out 0; have hfz10_1 := blk_frozen BK134.out 1)))
        go_ret
        exact ⟨Z5, Z1⟩
       ·rw [if_neg c8] at H
        have c8b0 : decide (1114111 < ((rd_T36 l0 x7_1).f1)) = false := decide_eq_false c8
        clear c8
        by_cases c11 : ((rd_T36 l0 x7_1).f0) > ((rd_T36 l0 x7_1).f1)
        ·rw [if_pos c11] at H
         have c11b0 : decide (((rd_T36 l0 x7_1).f1) < ((rd_T36 l0 x7_1).f0)) = true := decide_eq_true c11
         clear c11
         obtain rfl := Option.some.inj H
         have p133 : 0 ≤ (x7_1 : Int) := of_decide_eq_true Z4
         have q133 : x7_1 < (l0.length : Int) := of_decide_eq_true Z4
         obtain ⟨ad133, e133, hx133_0, hx133_1⟩ := at_T36 HR0.out x7_1 p133 q133
         cases e133
         replace hx133_0 := (HB.out.cell (World.block_lt_of_cell? w _ hx133_0)).trans hx133_0
         replace hx133_1 := (HB.out.cell (World.block_lt_of_cell? w _ hx133_1)).trans hx133_1
         replace p133 := eq_true p133
         replace q133 := eq_true q133
         go_wp2_with (first | ((with_reducible refine gate_dst (N := 4) rfl ?_); refine box_event ?hg (N := 4) ?hd (cs := #[.int .i32 0, .int .i32 0]) (t := 36) ?hr ?_; (case hd => rfl); (case hg => rfl); (case hr => first | (go_simp; done) | (go_simp; rfl)); intro gb134 hg w12 hbox hb; have BK134 := Aside0.mk (hbox); have GW134 := gE hg zB; have GE134 := gE hg zB; replace HB := Aside0.mk (below_step zB hb); clear hb hbox hg; have hcz13_0 := bC BK134 0 (.int .i32 0); have hcz13_1 := bC BK134 1 (.int .i32 0); have hfz13_0 := blk_frozen BK134.out 0; have hfz13_1 := blk_frozen BK134.out 1))
         repeat (go_quiet (first | ((with_reducible refine gate_dst (N := 4) rfl ?_); refine box_event ?hg (N := 4) ?hd (cs := #[.int .i32 0, .int .i32 0]) (t := 36) ?hr ?_; (case hd => rfl); (case hg => rfl); (case hr => first | (go_simp; done) | (go_simp; rfl)); intro gb134 hg w12 hbox hb; have BK134 := Aside0.mk (hbox); have GW134 := gE hg zB; have GE134 := gE hg zB; replace HB := Aside0.mk (below_step zB hb); clear hb hbox hg; have hcz13_0 := bC BK134 0 (.int .i32 0); have hcz13_1 := bC BK134 1 (.int .i32 0); have hfz13_0 := blk_frozen BK134.out 0; have hfz13_1 := blk_frozen BK134.out 1)); try go_wp2_with (first | ((with_reducible refine gate_dst (N := 4) rfl ?_); refine box_event ?hg (N := 4) ?hd (cs := #[.int .i32 0, .int .i32 0]) (t := 36) ?hr ?_; (case hd => rfl); (case hg => rfl); (case hr => first | (go_simp; done) | (go_simp; rfl)); intro gb134 hg w12 hbox hb; have BK134 := Aside0.mk (hbox); have GW134 := gE hg zB; have GE134 := gE hg zB; replace HB := Aside0.mk (below_step zB hb); clear hb hbox hg; have hcz13_0 := bC BK134 0 (.int .i32 0); have hcz13_1 := bC BK134 1 (.int .i32 0); have hfz13_0 := blk_frozen BK134.out 0; have hfz13_1 := blk_frozen BK134.out 1)))
         go_ret
         exact ⟨Z5, Z1⟩
        ·rw [if_neg c11] at H
         have c11b0 : decide (((rd_T36 l0 x7_1).f1) < ((rd_T36 l0 x7_1).f0)) = false := decide_eq_false c11
         clear c11
         by_cases c14 : x7_1 > 0
         ·rw [if_pos c14] at H
          have c14b0 : decide (0 < x7_1) = true := decide_eq_true c14
          clear c14
          obtain ⟨ji15, hji15⟩ : ∃ j_ : Int, (wrap64 (x7_1 - 1)) = j_ := ⟨_, rfl⟩
          replace H : (if 0 ≤ (ji15) then (if (ji15) < (l0.length : Int) then (if (wrap32 (((rd_T36 l0 x7_1).f0) - 1)) ≤ ((rd_T36 l0 (ji15)).f1) then (some 20) else (runes_Check.l0 k1 l0 l0 (l0.length : Int) (wrap64 (x7_1 + 1)))) else (none)) else (none)) = some r := by first | (rw [hji15] at H; exact H) | (simp only [hji15] at H ⊢; exact H)
          have hji15w : (IntKind.i64.wrap (x7_1 - 1)) = ji15 := (i64_w _).trans hji15
          by_cases c16 : 0 ≤ (ji15)
          ·rw [if_pos c16] at H
           have c16b0 := decide_eq_true c16
           clear c16
           by_cases c17 : (ji15) < (l0.length : Int)
           ·rw [if_pos c17] at H
            have c17b0 := decide_eq_true c17
            clear c17
            by_cases c18 : (wrap32 (((rd_T36 l0 x7_1).f0) - 1)) ≤ ((rd_T36 l0 (ji15)).f1)
            ·rw [if_pos c18] at H
             have c18b0 := decide_eq_true c18
             clear c18
             obtain rfl := Option.some.inj H
             have p133 : 0 ≤ (x7_1 : Int) := of_decide_eq_true Z4
             have q133 : x7_1 < (l0.length : Int) := of_decide_eq_true Z4
             obtain ⟨ad133, e133, hx133_0, hx133_1⟩ := at_T36 HR0.out x7_1 p133 q133
             cases e133
             replace hx133_0 := (HB.out.cell (World.block_lt_of_cell? w _ hx133_0)).trans hx133_0
             replace hx133_1 := (HB.out.cell (World.block_lt_of_cell? w _ hx133_1)).trans hx133_1
             replace p133 := eq_true p133
             replace q133 := eq_true q133
             go_wp2_with (first | ((with_reducible refine gate_dst (N := 4) rfl ?_); refine box_event ?hg (N := 4) ?hd (cs := #[.int .i32 0, .int .i32 0]) (t := 36) ?hr ?_; (case hd => rfl); (case hg => rfl); (case hr => first | (go_simp; done) | (go_simp; rfl)); intro gb134 hg w19 hbox hb; have BK134 := Aside0.mk (hbox); have GW134 := gE hg zB; have GE134 := gE hg zB; replace HB := Aside0.mk (below_step zB hb); clear hb hbox hg; have hcz20_0 := bC BK134 0 (.int .i32 0); have hcz20_1 := bC BK134 1 (.int .i32 0); have hfz20_0 := blk_frozen BK134.out 0; have hfz20_1 := blk_frozen BK134.out 1; have p135 : 0 ≤ ((ji15) : Int) := of_decide_eq_true Z4; have q135 : (ji15) < (l0.length : Int) := of_decide_eq_true Z4; obtain ⟨ad135, e135, hx135_0, hx135_1⟩ := at_T36 HR0.out (ji15) p135 q135; obtain rfl : ad133 = ad135 := (by injection e135); have hn135_0 : ad133.block ≠ gb134 := Nat.ne_of_lt (Nat.lt_of_lt_of_le Z13 GW134.out); have hn135_1 : ad133.block ≠ gb134 := Nat.ne_of_lt (Nat.lt_of_lt_of_le Z13 GW134.out); replace hx135_0 := (HB.out.cell (World.block_lt_of_cell? w _ hx135_0)).trans hx135_0; replace hx135_1 := (HB.out.cell (World.block_lt_of_cell? w _ hx135_1)).trans hx135_1; replace hx135_0 := (cell_far (p := ⟨gb134, 0, none⟩) Z10 (.int .i32 ((rd_T36 l0 x7_1).f0))).trans hx135_0; replace hx135_1 := (cell_far (p := ⟨gb134, 0, none⟩) Z10 (.int .i32 ((rd_T36 l0 x7_1).f0))).trans hx135_1; replace hx135_0 := (cell_far (p := ⟨gb134, 1, none⟩) Z9 (.int .i32 ((rd_T36 l0 x7_1).f1))).trans hx135_0; replace hx135_1 := (cell_far (p := ⟨gb134, 1, none⟩) Z9 (.int .i32 ((rd_T36 l0 x7_1).f1))).trans hx135_1; (try have hy135_0 := fun (n_ : Nat) => (show ((((w19.drewN n_).setCell ⟨gb134, 0, none⟩ (.int .i32 ((rd_T36 l0 x7_1).f0))).setCell ⟨gb134, 1, none⟩ (.int .i32 ((rd_T36 l0 x7_1).f1)))).cell? _ = some _ from hx135_0)); (try have hy135_1 := fun (n_ : Nat) => (show ((((w19.drewN n_).setCell ⟨gb134, 0, none⟩ (.int .i32 ((rd_T36 l0 x7_1).f0))).setCell ⟨gb134, 1, none⟩ (.int .i32 ((rd_T36 l0 x7_1).f1)))).cell? _ = some _ from hx135_1)); clear hn135_0; clear hn135_1; replace p135 := eq_true p135; replace q135 := eq_true q135))
             repeat (go_quiet (first | ((with_reducible refine gate_dst (N := 4) rfl ?_); refine box_event ?hg (N := 4) ?hd (cs := #[.int .i32 0, .int .i32 0]) (t := 36) ?hr ?_; (case hd => rfl); (case hg => rfl); (case hr => first | (go_simp; done) | (go_simp; rfl)); intro gb134 hg w19 hbox hb; have BK134 := Aside0.mk (hbox); have GW134 := gE hg zB; have GE134 := gE hg zB; replace HB := Aside0.mk (below_step zB hb); clear hb hbox hg; have hcz20_0 := bC BK134 0 (.int .i32 0); have hcz20_1 := bC BK134 1 (.int .i32 0); have hfz20_0 := blk_frozen BK134.out 0; have hfz20_1 := blk_frozen BK134.out 1; have p135 : 0 ≤ ((ji15) : Int) := of_decide_eq_true Z4; have q135 : (ji15) < (l0.length : Int) := of_decide_eq_true Z4; obtain ⟨ad135, e135, hx135_0, hx135_1⟩ := at_T36 HR0.out (ji15) p135 q135; obtain rfl : ad133 = ad135 := (by injection e135); have hn135_0 : ad133.block ≠ gb134 := Nat.ne_of_lt (Nat.lt_of_lt_of_le Z13 GW134.out); have hn135_1 : ad133.block ≠ gb134 := Nat.ne_of_lt (Nat.lt_of_lt_of_le Z13 GW134.out); replace hx135_0 := (HB.out.cell (World.block_lt_of_cell? w _ hx135_0)).trans hx135_0; replace hx135_1 := (HB.out.cell (World.block_lt_of_cell? w _ hx135_1)).trans hx135_1; replace hx135_0 := (cell_far (p := ⟨gb134, 0, none⟩) Z10 (.int .i32 ((rd_T36 l0 x7_1).f0))).trans hx135_0; replace hx135_1 := (cell_far (p := ⟨gb134, 0, none⟩) Z10 (.int .i32 ((rd_T36 l0 x7_1).f0))).trans hx135_1; replace hx135_0 := (cell_far (p := ⟨gb134, 1, none⟩) Z9 (.int .i32 ((rd_T36 l0 x7_1).f1))).trans hx135_0; replace hx135_1 := (cell_far (p := ⟨gb134, 1, none⟩) Z9 (.int .i32 ((rd_T36 l0 x7_1).f1))).trans hx135_1; (try have hy135_0 := fun (n_ : Nat) => (show ((((w19.drewN n_).setCell ⟨gb134, 0, none⟩ (.int .i32 ((rd_T36 l0 x7_1).f0))).setCell ⟨gb134, 1, none⟩ (.int .i32 ((rd_T36 l0 x7_1).f1)))).cell? _ = some _ from hx135_0)); (try have hy135_1 := fun (n_ : Nat) => (show ((((w19.drewN n_).setCell ⟨gb134, 0, none⟩ (.int .i32 ((rd_T36 l0 x7_1).f0))).setCell ⟨gb134, 1, none⟩ (.int .i32 ((rd_T36 l0 x7_1).f1)))).cell? _ = some _ from hx135_1)); clear hn135_0; clear hn135_1; replace p135 := eq_true p135; replace q135 := eq_true q135)); try go_wp2_with (first | ((with_reducible refine gate_dst (N := 4) rfl ?_); refine box_event ?hg (N := 4) ?hd (cs := #[.int .i32 0, .int .i32 0]) (t := 36) ?hr ?_; (case hd => rfl); (case hg => rfl); (case hr => first | (go_simp; done) | (go_simp; rfl)); intro gb134 hg w19 hbox hb; have BK134 := Aside0.mk (hbox); have GW134 := gE hg zB; have GE134 := gE hg zB; replace HB := Aside0.mk (below_step zB hb); clear hb hbox hg; have hcz20_0 := bC BK134 0 (.int .i32 0); have hcz20_1 := bC BK134 1 (.int .i32 0); have hfz20_0 := blk_frozen BK134.out 0; have hfz20_1 := blk_frozen BK134.out 1; have p135 : 0 ≤ ((ji15) : Int) := of_decide_eq_true Z4; have q135 : (ji15) < (l0.length : Int) := of_decide_eq_true Z4; obtain ⟨ad135, e135, hx135_0, hx135_1⟩ := at_T36 HR0.out (ji15) p135 q135; obtain rfl : ad133 = ad135 := (by injection e135); have hn135_0 : ad133.block ≠ gb134 := Nat.ne_of_lt (Nat.lt_of_lt_of_le Z13 GW134.out); have hn135_1 : ad133.block ≠ gb134 := Nat.ne_of_lt (Nat.lt_of_lt_of_le Z13 GW134.out); replace hx135_0 := (HB.out.cell (World.block_lt_of_cell? w _ hx135_0)).trans hx135_0; replace hx135_1 := (HB.out.cell (World.block_lt_of_cell? w _ hx135_1)).trans hx135_1; replace hx135_0 := (cell_far (p := ⟨gb134, 0, none⟩) Z10 (.int .i32 ((rd_T36 l0 x7_1).f0))).trans hx135_0; replace hx135_1 := (cell_far (p := ⟨gb134, 0, none⟩) Z10 (.int .i32 ((rd_T36 l0 x7_1).f0))).trans hx135_1; replace hx135_0 := (cell_far (p := ⟨gb134, 1, none⟩) Z9 (.int .i32 ((rd_T36 l0 x7_1).f1))).trans hx135_0; replace hx135_1 := (cell_far (p := ⟨gb134, 1, none⟩) Z9 (.int .i32 ((rd_T36 l0 x7_1).f1))).trans hx135_1; (try have hy135_0 := fun (n_ : Nat) => (show ((((w19.drewN n_).setCell ⟨gb134, 0, none⟩ (.int .i32 ((rd_T36 l0 x7_1).f0))).setCell ⟨gb134, 1, none⟩ (.int .i32 ((rd_T36 l0 x7_1).f1)))).cell? _ = some _ from hx135_0)); (try have hy135_1 := fun (n_ : Nat) => (show ((((w19.drewN n_).setCell ⟨gb134, 0, none⟩ (.int .i32 ((rd_T36 l0 x7_1).f0))).setCell ⟨gb134, 1, none⟩ (.int .i32 ((rd_T36 l0 x7_1).f1)))).cell? _ = some _ from hx135_1)); clear hn135_0; clear hn135_1; replace p135 := eq_true p135; replace q135 := eq_true q135)))
             go_ret
             exact ⟨by first | rfl | (simp [errW_none, errW_some] <;> rfl) | (simp only [← hji15]; first | rfl | (simp [errW_none, errW_some] <;> rfl)) | (simp [*, errW_none, errW_some] <;> rfl), Z1⟩
            ·rw [if_neg c18] at H
             have c18b0 := decide_eq_false c18
             clear c18
             have H' := Aside0.mk H
             clear H
             have p133 : 0 ≤ (x7_1 : Int) := of_decide_eq_true Z4
             have q133 : x7_1 < (l0.length : Int) := of_decide_eq_true Z4
             obtain ⟨ad133, e133, hx133_0, hx133_1⟩ := at_T36 HR0.out x7_1 p133 q133
             cases e133
             replace hx133_0 := (HB.out.cell (World.block_lt_of_cell? w _ hx133_0)).trans hx133_0
             replace hx133_1 := (HB.out.cell (World.block_lt_of_cell? w _ hx133_1)).trans hx133_1
             replace p133 := eq_true p133
             replace q133 := eq_true q133
             go_wp2_with (first | ((with_reducible refine gate_dst (N := 4) rfl ?_); refine box_event ?hg (N := 4) ?hd (cs := #[.int .i32 0, .int .i32 0]) (t := 36) ?hr ?_; (case hd => rfl); (case hg => rfl); (case hr => first | (go_simp; done) | (go_simp; rfl)); intro gb134 hg w21 hbox hb; have BK134 := Aside0.mk (hbox); have GW134 := gE hg zB; have GE134 := gE hg zB; replace HB := Aside0.mk (below_step zB hb); clear hb hbox hg; have hcz22_0 := bC BK134 0 (.int .i32 0); have hcz22_1 := bC BK134 1 (.int .i32 0); have hfz22_0 := blk_frozen BK134.out 0; have hfz22_1 := blk_frozen BK134.out 1; have p135 : 0 ≤ ((ji15) : Int) := of_decide_eq_true Z4; have q135 : (ji15) < (l0.length : Int) := of_decide_eq_true Z4; obtain ⟨ad135, e135, hx135_0, hx135_1⟩ := at_T36 HR0.out (ji15) p135 q135; obtain rfl : ad133 = ad135 := (by injection e135); have hn135_0 : ad133.block ≠ gb134 := Nat.ne_of_lt (Nat.lt_of_lt_of_le Z13 GW134.out); have hn135_1 : ad133.block ≠ gb134 := Nat.ne_of_lt (Nat.lt_of_lt_of_le Z13 GW134.out); replace hx135_0 := (HB.out.cell (World.block_lt_of_cell? w _ hx135_0)).trans hx135_0; replace hx135_1 := (HB.out.cell (World.block_lt_of_cell? w _ hx135_1)).trans hx135_1; replace hx135_0 := (cell_far (p := ⟨gb134, 0, none⟩) Z10 (.int .i32 ((rd_T36 l0 x7_1).f0))).trans hx135_0; replace hx135_1 := (cell_far (p := ⟨gb134, 0, none⟩) Z10 (.int .i32 ((rd_T36 l0 x7_1).f0))).trans hx135_1; replace hx135_0 := (cell_far (p := ⟨gb134, 1, none⟩) Z9 (.int .i32 ((rd_T36 l0 x7_1).f1))).trans hx135_0; replace hx135_1 := (cell_far (p := ⟨gb134, 1, none⟩) Z9 (.int .i32 ((rd_T36 l0 x7_1).f1))).trans hx135_1; (try have hy135_0 := fun (n_ : Nat) => (show ((((w21.drewN n_).setCell ⟨gb134, 0, none⟩ (.int .i32 ((rd_T36 l0 x7_1).f0))).setCell ⟨gb134, 1, none⟩ (.int .i32 ((rd_T36 l0 x7_1).f1)))).cell? _ = some _ from hx135_0)); (try have hy135_1 := fun (n_ : Nat) => (show ((((w21.drewN n_).setCell ⟨gb134, 0, none⟩ (.int .i32 ((rd_T36 l0 x7_1).f0))).setCell ⟨gb134, 1, none⟩ (.int .i32 ((rd_T36 l0 x7_1).f1)))).cell? _ = some _ from hx135_1)); clear hn135_0; clear hn135_1; replace p135 := eq_true p135; replace q135 := eq_true q135))
             repeat (go_quiet (first | ((with_reducible refine gate_dst (N := 4) rfl ?_); refine box_event ?hg (N := 4) ?hd (cs := #[.int .i32 0, .int .i32 0]) (t := 36) ?hr ?_; (case hd => rfl); (case hg => rfl); (case hr => first | (go_simp; done) | (go_simp; rfl)); intro gb134 hg w21 hbox hb; have BK134 := Aside0.mk (hbox); have GW134 := gE hg zB; have GE134 := gE hg zB; replace HB := Aside0.mk (below_step zB hb); clear hb hbox hg; have hcz22_0 := bC BK134 0 (.int .i32 0); have hcz22_1 := bC BK134 1 (.int .i32 0); have hfz22_0 := blk_frozen BK134.out 0; have hfz22_1 := blk_frozen BK134.out 1; have p135 : 0 ≤ ((ji15) : Int) := of_decide_eq_true Z4; have q135 : (ji15) < (l0.length : Int) := of_decide_eq_true Z4; obtain ⟨ad135, e135, hx135_0, hx135_1⟩ := at_T36 HR0.out (ji15) p135 q135; obtain rfl : ad133 = ad135 := (by injection e135); have hn135_0 : ad133.block ≠ gb134 := Nat.ne_of_lt (Nat.lt_of_lt_of_le Z13 GW134.out); have hn135_1 : ad133.block ≠ gb134 := Nat.ne_of_lt (Nat.lt_of_lt_of_le Z13 GW134.out); replace hx135_0 := (HB.out.cell (World.block_lt_of_cell? w _ hx135_0)).trans hx135_0; replace hx135_1 := (HB.out.cell (World.block_lt_of_cell? w _ hx135_1)).trans hx135_1; replace hx135_0 := (cell_far (p := ⟨gb134, 0, none⟩) Z10 (.int .i32 ((rd_T36 l0 x7_1).f0))).trans hx135_0; replace hx135_1 := (cell_far (p := ⟨gb134, 0, none⟩) Z10 (.int .i32 ((rd_T36 l0 x7_1).f0))).trans hx135_1; replace hx135_0 := (cell_far (p := ⟨gb134, 1, none⟩) Z9 (.int .i32 ((rd_T36 l0 x7_1).f1))).trans hx135_0; replace hx135_1 := (cell_far (p := ⟨gb134, 1, none⟩) Z9 (.int .i32 ((rd_T36 l0 x7_1).f1))).trans hx135_1; (try have hy135_0 := fun (n_ : Nat) => (show ((((w21.drewN n_).setCell ⟨gb134, 0, none⟩ (.int .i32 ((rd_T36 l0 x7_1).f0))).setCell ⟨gb134, 1, none⟩ (.int .i32 ((rd_T36 l0 x7_1).f1)))).cell? _ = some _ from hx135_0)); (try have hy135_1 := fun (n_ : Nat) => (show ((((w21.drewN n_).setCell ⟨gb134, 0, none⟩ (.int .i32 ((rd_T36 l0 x7_1).f0))).setCell ⟨gb134, 1, none⟩ (.int .i32 ((rd_T36 l0 x7_1).f1)))).cell? _ = some _ from hx135_1)); clear hn135_0; clear hn135_1; replace p135 := eq_true p135; replace q135 := eq_true q135)); try go_wp2_with (first | ((with_reducible refine gate_dst (N := 4) rfl ?_); refine box_event ?hg (N := 4) ?hd (cs := #[.int .i32 0, .int .i32 0]) (t := 36) ?hr ?_; (case hd => rfl); (case hg => rfl); (case hr => first | (go_simp; done) | (go_simp; rfl)); intro gb134 hg w21 hbox hb; have BK134 := Aside0.mk (hbox); have GW134 := gE hg zB; have GE134 := gE hg zB; replace HB := Aside0.mk (below_step zB hb); clear hb hbox hg; have hcz22_0 := bC BK134 0 (.int .i32 0); have hcz22_1 := bC BK134 1 (.int .i32 0); have hfz22_0 := blk_frozen BK134.out 0; have hfz22_1 := blk_frozen BK134.out 1; have p135 : 0 ≤ ((ji15) : Int) := of_decide_eq_true Z4; have q135 : (ji15) < (l0.length : Int) := of_decide_eq_true Z4; obtain ⟨ad135, e135, hx135_0, hx135_1⟩ := at_T36 HR0.out (ji15) p135 q135; obtain rfl : ad133 = ad135 := (by injection e135); have hn135_0 : ad133.block ≠ gb134 := Nat.ne_of_lt (Nat.lt_of_lt_of_le Z13 GW134.out); have hn135_1 : ad133.block ≠ gb134 := Nat.ne_of_lt (Nat.lt_of_lt_of_le Z13 GW134.out); replace hx135_0 := (HB.out.cell (World.block_lt_of_cell? w _ hx135_0)).trans hx135_0; replace hx135_1 := (HB.out.cell (World.block_lt_of_cell? w _ hx135_1)).trans hx135_1; replace hx135_0 := (cell_far (p := ⟨gb134, 0, none⟩) Z10 (.int .i32 ((rd_T36 l0 x7_1).f0))).trans hx135_0; replace hx135_1 := (cell_far (p := ⟨gb134, 0, none⟩) Z10 (.int .i32 ((rd_T36 l0 x7_1).f0))).trans hx135_1; replace hx135_0 := (cell_far (p := ⟨gb134, 1, none⟩) Z9 (.int .i32 ((rd_T36 l0 x7_1).f1))).trans hx135_0; replace hx135_1 := (cell_far (p := ⟨gb134, 1, none⟩) Z9 (.int .i32 ((rd_T36 l0 x7_1).f1))).trans hx135_1; (try have hy135_0 := fun (n_ : Nat) => (show ((((w21.drewN n_).setCell ⟨gb134, 0, none⟩ (.int .i32 ((rd_T36 l0 x7_1).f0))).setCell ⟨gb134, 1, none⟩ (.int .i32 ((rd_T36 l0 x7_1).f1)))).cell? _ = some _ from hx135_0)); (try have hy135_1 := fun (n_ : Nat) => (show ((((w21.drewN n_).setCell ⟨gb134, 0, none⟩ (.int .i32 ((rd_T36 l0 x7_1).f0))).setCell ⟨gb134, 1, none⟩ (.int .i32 ((rd_T36 l0 x7_1).f1)))).cell? _ = some _ from hx135_1)); clear hn135_0; clear hn135_1; replace p135 := eq_true p135; replace q135 := eq_true q135)))
             go_roundg k1
             case measure => have := HK1.out; omega
             case rel => exact ⟨(wrap64 (x7_1 + 1)), Z7, H', ⟨Z22⟩, ⟨Z1⟩⟩
           ·rw [if_neg c17] at H
            exact absurd H Z21
          ·rw [if_neg c16] at H
           exact absurd H Z21
         ·rw [if_neg c14] at H
          have c14b0 : decide (0 < x7_1) = false := decide_eq_false c14
          clear c14
          have H' := Aside0.mk H
          clear H
          have p133 : 0 ≤ (x7_1 : Int) := of_decide_eq_true Z4
          have q133 : x7_1 < (l0.length : Int) := of_decide_eq_true Z4
          obtain ⟨ad133, e133, hx133_0, hx133_1⟩ := at_T36 HR0.out x7_1 p133 q133
          cases e133
          replace hx133_0 := (HB.out.cell (World.block_lt_of_cell? w _ hx133_0)).trans hx133_0
          replace hx133_1 := (HB.out.cell (World.block_lt_of_cell? w _ hx133_1)).trans hx133_1
          replace p133 := eq_true p133
          replace q133 := eq_true q133
          go_wp2_with (first | ((with_reducible refine gate_dst (N := 4) rfl ?_); refine box_event ?hg (N := 4) ?hd (cs := #[.int .i32 0, .int .i32 0]) (t := 36) ?hr ?_; (case hd => rfl); (case hg => rfl); (case hr => first | (go_simp; done) | (go_simp; rfl)); intro gb134 hg w23 hbox hb; have BK134 := Aside0.mk (hbox); have GW134 := gE hg zB; have GE134 := gE hg zB; replace HB := Aside0.mk (below_step zB hb); clear hb hbox hg; have hcz24_0 := bC BK134 0 (.int .i32 0); have hcz24_1 := bC BK134 1 (.int .i32 0); have hfz24_0 := blk_frozen BK134.out 0; have hfz24_1 := blk_frozen BK134.out 1))
          repeat (go_quiet (first | ((with_reducible refine gate_dst (N := 4) rfl ?_); refine box_event ?hg (N := 4) ?hd (cs := #[.int .i32 0, .int .i32 0]) (t := 36) ?hr ?_; (case hd => rfl); (case hg => rfl); (case hr => first | (go_simp; done) | (go_simp; rfl)); intro gb134 hg w23 hbox hb; have BK134 := Aside0.mk (hbox); have GW134 := gE hg zB; have GE134 := gE hg zB; replace HB := Aside0.mk (below_step zB hb); clear hb hbox hg; have hcz24_0 := bC BK134 0 (.int .i32 0); have hcz24_1 := bC BK134 1 (.int .i32 0); have hfz24_0 := blk_frozen BK134.out 0; have hfz24_1 := blk_frozen BK134.out 1)); try go_wp2_with (first | ((with_reducible refine gate_dst (N := 4) rfl ?_); refine box_event ?hg (N := 4) ?hd (cs := #[.int .i32 0, .int .i32 0]) (t := 36) ?hr ?_; (case hd => rfl); (case hg => rfl); (case hr => first | (go_simp; done) | (go_simp; rfl)); intro gb134 hg w23 hbox hb; have BK134 := Aside0.mk (hbox); have GW134 := gE hg zB; have GE134 := gE hg zB; replace HB := Aside0.mk (below_step zB hb); clear hb hbox hg; have hcz24_0 := bC BK134 0 (.int .i32 0); have hcz24_1 := bC BK134 1 (.int .i32 0); have hfz24_0 := blk_frozen BK134.out 0; have hfz24_1 := blk_frozen BK134.out 1)))
          go_roundg k1
          case measure => have := HK1.out; omega
          case rel => exact ⟨(wrap64 (x7_1 + 1)), Z7, H', ⟨Z22⟩, ⟨Z1⟩⟩
     ·rw [if_neg c4] at H
      exact absurd H Z21
    ·rw [if_neg c3] at H
     exact absurd H Z21
   ·rw [if_neg c2] at H
    have c2b0 := decide_eq_false c2
    clear c2
    by_cases c25 : (l0.length : Int) > 2048
    ·rw [if_pos c25] at H
     have c25b0 : decide (2048 < (l0.length : Int)) = true := decide_eq_true c25
     have c25b1 : decide (2048 < l0.length) = true := decide_eq_true Z16
     clear c25
     obtain rfl := Option.some.inj H
     go_wp2
     repeat (go_quiet (fail); try go_wp2)
     go_ret
     exact ⟨Z5, Z1⟩
    ·rw [if_neg c25] at H
     have c25b0 : decide (2048 < (l0.length : Int)) = false := decide_eq_false c25
     have c25b1 : decide (2048 < l0.length) = false := decide_eq_false Z16
     clear c25
     obtain rfl := Option.some.inj H
     go_wp2
     repeat (go_quiet (fail); try go_wp2)
     go_ret
     exact ⟨Z5, Z1⟩
def strings_ContainsRune.f (a0 : ByteArray) (a1 : Int) : Option (Bool) := if 0 ≤ a1 then (if a1 < 128 then some (decide (0 ≤ Lib.indexByte a0.data.toList a1.toNat.toUInt8)) else none) else none
theorem strings_ContainsRune.calls {a0 : ByteArray} {a1 : Int} {r : Bool} {w : World} (h : strings_ContainsRune.f a0 a1 = some r) :
  Calls Tryd.prog 69 #[.string a0, .int .i32 a1] w fun e w' => e = .returned (.bool r) ∧ Drawn0 w w' := by
 unfold strings_ContainsRune.f at h
 by_cases c1 : 0 ≤ a1
 ·rw [if_pos c1] at h
  by_cases c2 : a1 < 128
  ·rw [if_pos c2] at h
   obtain rfl := Option.some.inj h
   refine (Tryd.strings_ContainsRune_ascii a0 a1 w c1 c2).mono ?_
   rintro e w' ⟨rfl, rfl⟩
   exact ⟨rfl, Drawn0.refl _⟩
  ·rw [if_neg c2] at h; exact absurd h Z21
 ·rw [if_neg c1] at h; exact absurd h Z21
def runes_one.f (a0 : Int) : Option (ByteArray) := if a0 = 10 then some ⟨#[92, 110]⟩ else if a0 = 9 then some ⟨#[92, 116]⟩ else if a0 = 13 then some ⟨#[92, 114]⟩ else (strings_ContainsRune.f ⟨#[91, 93, 45, 94, 92, 34]⟩ a0).bind fun b => if b = true then (if (Utf8.encode a0).size ≤ 4 then some (⟨#[92]⟩ ++ Utf8.encode a0) else none) else if 33 ≤ a0 then (if a0 ≤ 126 then some (Utf8.encode a0) else none) else none
set_option maxHeartbeats 8000000 in
set_option maxRecDepth 100000 in
theorem runes_one.calls {a0 : Int} {r : ByteArray} {w : World} (h : runes_one.f a0 = some r) :
  Calls Tryd.prog 56 #[.int .i32 a0] w fun e w' => e = .returned (.string r) ∧ Drawn0 w w' := by
 unfold runes_one.f at h
 by_cases c1 : a0 = 10
 ·rw [if_pos c1] at h
  obtain rfl := Option.some.inj h
  subst c1
  go_enter Tryd.func56, Tryd.ntmps56
  go_wp2
  go_ret
  exact ⟨rfl, Z17⟩
 rw [if_neg c1] at h
 have d1 : (a0 == 10) = false := beq_eq_false_iff_ne.mpr c1
 clear c1
 by_cases c2 : a0 = 9
 ·rw [if_pos c2] at h
  obtain rfl := Option.some.inj h
  subst c2
  go_enter Tryd.func56, Tryd.ntmps56
  go_wp2
  go_ret
  exact ⟨rfl, Z17⟩
 rw [if_neg c2] at h
 have d2 : (a0 == 9) = false := beq_eq_false_iff_ne.mpr c2
 clear c2
 by_cases c3 : a0 = 13
 ·rw [if_pos c3] at h
  obtain rfl := Option.some.inj h
  subst c3
  go_enter Tryd.func56, Tryd.ntmps56
  go_wp2
  go_ret
  exact ⟨rfl, Z17⟩
 rw [if_neg c3] at h
 have d3 : (a0 == 13) = false := beq_eq_false_iff_ne.mpr c3
 clear c3
 obtain ⟨b, hb, h⟩ := Option.bind_eq_some_iff.mp h
 have A1 := Aside0.mk hb
 clear hb
 cases b with
 | true =>
  rw [if_pos rfl] at h
  by_cases c4 : (Utf8.encode a0).size ≤ 4
  ·rw [if_pos c4] at h
   obtain rfl := Option.some.inj h
   go_enter Tryd.func56, Tryd.ntmps56
   go_wp2_with (go_at_call 69; refine (strings_ContainsRune.calls A1.out).mono ?_; rintro e w' ⟨rfl, ⟨nd, rfl⟩⟩)
   go_ret
   exact ⟨rfl, Z17⟩
  ·rw [if_neg c4] at h; exact absurd h Z21
 | false =>
  rw [if_neg Z15] at h
  by_cases c4 : 33 ≤ a0
  ·rw [if_pos c4] at h
   by_cases c5 : a0 ≤ 126
   ·rw [if_pos c5] at h
    obtain rfl := Option.some.inj h
    have d4 : decide (33 ≤ a0) = true := decide_eq_true c4
    have d5 : decide (a0 ≤ 126) = true := decide_eq_true c5
    clear c4 c5
    go_enter Tryd.func56, Tryd.ntmps56
    go_wp2_with (go_at_call 69; refine (strings_ContainsRune.calls A1.out).mono ?_; rintro e w' ⟨rfl, ⟨nd, rfl⟩⟩)
    go_ret
    exact ⟨rfl, Z17⟩
   ·rw [if_neg c5] at h; exact absurd h Z21
  ·rw [if_neg c4] at h; exact absurd h Z21
def runes_Text.loop : List S36 → List UInt8 → Option (List UInt8)
 | [], s => some s
 | t :: l, s => if s.length ≤ 1000000000 then (runes_one.f t.f0).bind fun a => (if a.size ≤ 1000 then (if t.f1 = t.f0 then runes_Text.loop l (s ++ a.data.toList) else (runes_one.f t.f1).bind fun b => (if b.size ≤ 1000 then runes_Text.loop l (s ++ a.data.toList ++ (⟨#[45]⟩ ++ b).data.toList) else none)) else none) else none
def runes_Text.f (k : Nat) (l0 : List S36) : Option (ByteArray × Int) := (runes_Check.f k l0).bind fun e => if e = 0 then (runes_Text.loop l0 [91]).bind fun s => (if s.length ≤ 1000000000 then some (⟨(s ++ [93]).toArray⟩, 0) else none) else some (⟨#[]⟩, e)
theorem runes_Text.mono : ∀ a0 k, LeO (runes_Text.f k a0) (runes_Text.f (k + 1) a0) := by
 intro a0 k
 unfold runes_Text.f
 exact LeO.bind (runes_Check.mono _ _) (fun _ => LeO.refl _)
theorem runes_Text.kept {B b : Nat} {bs : List Value} {w w1 : World} (h : Lib.IsBuilderF 78 5 B b bs w) (hb : Below w.heap.size w w1) : Lib.IsBuilderF 78 5 B b bs w1 := by
 have key : ∀ p, Lib.BuilderAtF 78 5 B b p bs w → Lib.BuilderAtF 78 5 B b p bs w1 := by
  rintro p ⟨h0, v, h1, h2, h3⟩
  exact ⟨h0, v, blk_below h1 hb, h2.kept (row := none) ⟨hb.os, hb.tape, hb.output, hb.size, fun k hk _ => hb.block k hk⟩ (by cases v.ownBlock <;> simp), h3⟩
 exact h.imp (key _) (key _)
theorem runes_Text.bcat (s : List UInt8) (a : ByteArray) : Lib.byteCells s ++ Lib.strCells a = Lib.byteCells (s ++ a.data.toList) := by simp [Lib.byteCells, Lib.strCells]
theorem runes_Text.step {B b : Nat} {s : List UInt8} {a : ByteArray} {w : World} (h : Lib.BuilderAtF 78 5 B b (.pointer (some ⟨b, 0, none⟩)) (Lib.byteCells s ++ Lib.strCells a) w) : Lib.IsBuilderF 78 5 B b (Lib.byteCells (s ++ a.data.toList)) w := .inr (by rw [← runes_Text.bcat]; exact h)
theorem runes_Text.fresh {B : Nat} {w : World} (h : B ≤ w.heap.size) : Lib.IsBuilderF 78 5 B w.heap.size [] (w.alloc (.cells #[.pointer none, .slice none 0 0] 78 (0, 0))) :=
 .inl (Lib.BuilderAtF.of ⟨h, .slice none 0 0, blk_new w _, own_nil _ _ _ _, by simp [Value.ownBlock]⟩)
set_option maxHeartbeats 8000000 in
set_option maxRecDepth 100000 in
theorem runes_Text.calls (k : Nat) (A0 : Option Addr) (c0 : Nat) (l0 : List (S36)) (r1 : ByteArray) (r2 : Int) (w : World) (hr0 : Kd.C k36 w A0 l0.length l0) (hc0 : l0.length ≤ c0) (h : runes_Text.f k l0 = some (r1, r2)) :
  Calls Tryd.prog 34 #[.slice A0 l0.length c0] w fun e w' => e = .returned (.tuple #[.string r1, .int .i64 r2]) ∧ Below w.heap.size w w' := by
 have HR0 := Aside0.mk hr0
 have HC0 := Aside0.mk hc0
 clear hr0 hc0
 unfold runes_Text.f at h
 obtain ⟨e0, Q1, h⟩ := Option.bind_eq_some_iff.mp h
 replace Q1 := Aside0.mk Q1
 by_cases c1 : e0 = 0
 rotate_left
 ·rw [if_neg c1] at h
  obtain ⟨rfl, rfl⟩ := Prod.mk.inj (Option.some.inj h)
  clear h
  have d1 : (e0 != 0) = true := bne_iff_ne.mpr c1
  clear c1
  go_enter Tryd.func34, Tryd.ntmps34
  go_wp2_with (go_at_call 17; refine (runes_Check.calls k _ _ _ _ _ HR0.out HC0.out Q1.out).mono ?_; rintro e W1 ⟨rfl, hb⟩; have B1 := Aside0.mk hb; clear hb)
  go_ret2
  exact ⟨rfl, B1.out⟩
 rw [if_pos c1] at h
 subst c1
 obtain ⟨S, L1, h⟩ := Option.bind_eq_some_iff.mp h
 replace L1 := Aside0.mk L1
 by_cases c2 : S.length ≤ 1000000000
 rotate_left
 ·rw [if_neg c2] at h; exact absurd h Z21
 rw [if_pos c2] at h
 obtain ⟨rfl, rfl⟩ := Prod.mk.inj (Option.some.inj h)
 clear h
 have c2 := Aside0.mk c2
 go_enter Tryd.func34, Tryd.ntmps34
 go_upto_region 5 with (go_at_call 17; refine (runes_Check.calls k _ _ _ _ _ HR0.out HC0.out Q1.out).mono ?_; rintro e W1 ⟨rfl, hb⟩; have B1 := Aside0.mk hb; clear hb)
 have hg : w.heap.size ≤ W1.heap.size := B1.out.size
 have I2 := Aside0.mk (runes_Text.fresh hg)
 have B2 := Aside0.mk (B1.out.alloc hg (.cells #[.pointer none, .slice none 0 0] 78 (0, 0)))
 generalize W1.alloc (.cells #[.pointer none, .slice none 0 0] 78 (0, 0)) = W2 at I2 B2 ⊢
 generalize hgg : W1.heap.size = g at I2 hg ⊢
 clear hgg B1
 go_wp2_with (go_at_call 55; refine (Tryd.Builder_WriteString w.heap.size g [] ⟨#[91]⟩ W2 I2.out (by simp [ByteArray.size]) B2.out.size).mono ?_; rintro e W3 ⟨rfl, hi, hb, -⟩; have I3 := Aside0.mk (show Lib.IsBuilderF 78 5 w.heap.size g (Lib.byteCells [91]) W3 from .inr hi); have B3 := Aside0.mk (B2.out.trans hb); clear hi hb)
 go_loopw [16] (fun i wr => ∃ (x : Int) (s : List UInt8), 0 ≤ x ∧ x ≤ (l0.length : Int) ∧ i = .int .i64 x ∧ Aside0 (Lib.IsBuilderF 78 5 w.heap.size g (Lib.byteCells s) wr) ∧ Aside0 (Below w.heap.size w wr) ∧ Aside0 (runes_Text.loop (l0.drop x.toNat) s = some S)) (fun i _ => l0.length - (intOf i).toNat)
 case atStart => exact ⟨0, _, Z16, Z16, rfl, I3, B3, L1⟩
 case round =>
  clear I2 B2 I3 B3 L1
  obtain ⟨x, s, hx0, hx1, rfl, HI, HB, HL⟩ := hrel
  by_cases hlt : x < (l0.length : Int)
  ·obtain ⟨ad, e0, h0, h1⟩ := at_T36 (Kd.C_below HR0.out HB.out) x hx0 hlt
   obtain rfl := e0
   have hd : l0.drop x.toNat = rd_T36 l0 x :: l0.drop (x + 1).toNat := by
    have hl : x.toNat < l0.length := by omega
    rw [List.drop_eq_getElem_cons hl, show (x + 1).toNat = x.toNat + 1 from by omega]
    congr 1
    unfold rd_T36
    rw [List.getD_eq_getElem?_getD, List.getElem?_eq_getElem hl]
    rfl
   have hl := HL.out
   clear HL
   rw [hd] at hl
   clear hd
   obtain ⟨⟨t0, t1⟩, ht⟩ : ∃ t, rd_T36 l0 x = t := ⟨_, rfl⟩
   rw [ht] at hl h0 h1
   clear ht
   unfold runes_Text.loop at hl
   dsimp only at hl h0 h1
   have hw : wrap64 (x + 1) = x + 1 := by unfold wrap64; have := HR0.out.2.1; omega
   have hw := Aside0.mk hw
   have hlb : decide (x < (l0.length : Int)) = true := decide_eq_true hlt
   by_cases d1 : s.length ≤ 1000000000
   rotate_left
   ·rw [if_neg d1] at hl; exact absurd hl Z21
   rw [if_pos d1] at hl
   obtain ⟨a, E1, hl⟩ := Option.bind_eq_some_iff.mp hl
   replace E1 := Aside0.mk E1
   by_cases d2 : a.size ≤ 1000
   rotate_left
   ·rw [if_neg d2] at hl; exact absurd hl Z21
   rw [if_pos d2] at hl
   have hl := Aside0.mk hl
   have d1 := Aside0.mk d1
   have d2 := Aside0.mk d2
   have hbx := (Below.refl wr.heap.size wr).alloc (Nat.le_refl _) (.cells #[.int .i32 t0, .int .i32 t1] 36)
   have HIX := Aside0.mk (runes_Text.kept HI.out hbx)
   have HBX := Aside0.mk (HB.out.trans (hbx.mono HB.out.size))
   have hgq : g < wr.heap.size := HI.out.elim (·.lt) (·.lt)
   clear hbx HI
   have BT := Aside0.mk (blk_new wr (.cells #[.int .i32 t0, .int .i32 t1] 36))
   go_upto_region 9 with (fail)
   generalize wr.alloc (.cells #[.int .i32 t0, .int .i32 t1] 36) = wx at HIX HBX BT ⊢
   generalize hq : wr.heap.size = q at BT hgq ⊢
   have ct0 := (blk_cell BT.out 0).trans rfl
   have ct1 := (blk_cell BT.out 1).trans rfl
   clear h0 h1
   have OK4 : ∀ {w1 w2 : World}, w1.heap[q]? = some (.cells #[.int .i32 t0, .int .i32 t1] 36 (0, 0)) → Lib.OthersKept 5 (some g) w1 w2 → w2.heap[q]? = some (.cells #[.int .i32 t0, .int .i32 t1] 36 (0, 0)) := fun h1 h2 => h2 q _ h1 (by simp; omega) (by rintro c fz h; simp at h)
   go_upto_region 10 with (first | (go_at_call 56; refine (runes_one.calls E1.out).mono ?_; rintro e w' ⟨rfl, ⟨nd, rfl⟩⟩) | (go_at_call 55; refine (Tryd.Builder_WriteString w.heap.size g _ a (wx.drewN nd) (show Lib.IsBuilderF 78 5 w.heap.size g (Lib.byteCells s) (wx.drewN nd) from HIX.out) (by rw [Lib.byteCells_length]; have := d1.out; have := d2.out; omega) HBX.out.size).mono ?_; rintro e W4 ⟨rfl, hi, hb, hk⟩; have I4 := Aside0.mk (show Lib.IsBuilderF 78 5 w.heap.size g (Lib.byteCells (s ++ a.data.toList)) W4 from .inr (by rw [← runes_Text.bcat]; exact hi)); have B4 := Aside0.mk (HBX.out.trans (show Below w.heap.size wx W4 from ⟨hb.os, hb.tape, hb.output, hb.size, hb.block⟩)); have BT4 := Aside0.mk (OK4 (show (wx.drewN nd).heap[q]? = _ from BT.out) hk); clear hi hb hk))
   have cu0 := (blk_cell BT4.out 0).trans rfl
   have cu1 := (blk_cell BT4.out 1).trans rfl
   clear HIX HBX BT ct0 ct1
   by_cases d3 : t1 = t0
   ·have hl' := hl.out
    rw [if_pos d3] at hl'
    have hl := Aside0.mk hl'
    clear hl'
    have d3b : (t1 != t0) = false := bne_eq_false_iff_eq.mpr d3
    clear d3
    go_wp2
    go_roundw
    case rel => exact ⟨x + 1, _, Z16, Z16, by rw [hw.out], I4, B4, hl⟩
    case measure => simp [intOf]; omega
   ·have hl' := hl.out
    rw [if_neg d3] at hl'
    obtain ⟨b, E2, hl'⟩ := Option.bind_eq_some_iff.mp hl'
    replace E2 := Aside0.mk E2
    by_cases d4 : b.size ≤ 1000
    rotate_left
    ·rw [if_neg d4] at hl'; exact absurd hl' Z21
    rw [if_pos d4] at hl'
    have hl := Aside0.mk hl'
    clear hl'
    have d3b : (t1 != t0) = true := bne_iff_ne.mpr d3
    clear d3
    go_wp2_with (first | (go_at_call 56; refine (runes_one.calls E2.out).mono ?_; rintro e w' ⟨rfl, ⟨ne, rfl⟩⟩) | (go_at_call 55; have hi4 : Lib.IsBuilderF 78 5 w.heap.size g (Lib.byteCells (s ++ a.data.toList)) (W4.drewN ne) := I4.out; refine Calls.mono (Tryd.Builder_WriteString w.heap.size g _ _ (W4.drewN ne) hi4 ?hz B4.out.size) ?_; (case hz => rw [Lib.byteCells_length, List.length_append, ByteArray.size_append]; have e1 : a.data.toList.length = a.size := rfl; have e2 : (⟨#[45]⟩ : ByteArray).size = 1 := rfl; have := d1.out; have := d2.out; omega); rintro e W5 ⟨rfl, hi, hb, -⟩; have I5 := Aside0.mk (runes_Text.step hi); have B5 := Aside0.mk (B4.out.trans (show Below w.heap.size W4 W5 from ⟨hb.os, hb.tape, hb.output, hb.size, hb.block⟩)); clear hi hi4 hb))
    go_roundw
    case rel => exact ⟨x + 1, _, Z16, Z16, by rw [hw.out], I5, B5, hl⟩
    case measure => simp [intOf]; omega
  ·have hlb : decide (x < (l0.length : Int)) = false := decide_eq_false hlt
   have hx : x = l0.length := by omega
   have hl := HL.out
   rw [List.drop_eq_nil_of_le Z16] at hl
   obtain rfl := Option.some.inj hl
   clear hl HL
   go_wp2_with (first | (go_at_call 55; refine (Tryd.Builder_WriteString w.heap.size g _ ⟨#[93]⟩ wr HI.out (by rw [Lib.byteCells_length]; have := c2.out; simp [ByteArray.size]; omega) HB.out.size).mono ?_; rintro e W3 ⟨rfl, hi, hb, -⟩; have I3 := Aside0.mk (show Lib.IsBuilderF 78 5 w.heap.size g (Lib.byteCells (s ++ (⟨#[93]⟩ : ByteArray).data.toList)) W3 from .inr (by rw [← runes_Text.bcat]; exact hi)); have B3 := Aside0.mk (HB.out.trans hb); clear hi hb) | (go_at_call 57; refine (Tryd.Builder_String_any w.heap.size g _ W3 I3.out B3.out.size).mono ?_; rintro e W4 ⟨rfl, hb⟩; have B4 := Aside0.mk (B3.out.trans hb); clear hb))
   go_ret2
   exact ⟨rfl, B4.out⟩
end Go.Proofs.YtfnkboilepgmoaaDoor.R
