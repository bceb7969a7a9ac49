import Derived.Test.YtfnkboilepgmoaaDoorFPre
import Derived.Test.YtfnkboilepgmoaaDoorFabx0
import Derived.Test.YtfnkboilepgmoaaDoorFabx3
import Derived.Test.YtfnkboilepgmoaaDoorFabx4
import Derived.Test.YtfnkboilepgmoaaDoorFabx5
import Derived.Test.YtfnkboilepgmoaaDoorFabx6
namespace Go.Proofs.YtfnkboilepgmoaaDoor.R
open Go.RowKit Go.Proofs.YtfnkboilepgmoaaDoorW.PrintWords Go.Proofs.YtfnkboilepgmoaaDoorW.PrintLast Go.Proofs.YtfnkboilepgmoaaDoorW.PrintMore
attribute [local go_sem] max2_int min2_int max_two min_two max_three min_three max_four min_four
set_option linter.unusedVariables false
set_option linter.unusedSimpArgs false
def runes_not.l0 : Nat → List (S36) → Int → List (S36) → Int → Int → Option ((List (S36)))
 | 0, _, _, _, _, _ => none
 | k + 1, x3, x4, x7, x8, x9 => if x9 < x8 then (if 0 ≤ x9 then (if x9 < (x7.length : Int) then (if ((rd_T36 x7 x9).f0) > x4 then (if x3.length < 17592186044416 then (runes_not.l0 k (x3 ++ [(⟨x4, wrap32 (((rd_T36 x7 x9).f0) - 1)⟩ : S36)]) (wrap32 (((rd_T36 x7 x9).f1) + 1)) x7 x8 (wrap64 (x9 + 1))) else (none)) else (runes_not.l0 k x3 (wrap32 (((rd_T36 x7 x9).f1) + 1)) x7 x8 (wrap64 (x9 + 1)))) else (none)) else (none)) else (if x4 ≤ 1114111 then (if x3.length < 17592186044416 then (some (x3 ++ [(⟨x4, 1114111⟩ : S36)])) else (none)) else (some x3))
def runes_not.f (k : Nat) (l0 : List (S36)) : Option ((List (S36))) := runes_not.l0 k ([] : List (S36)) 0 l0 (l0.length : Int) 0
set_option maxHeartbeats 8000000 in
set_option maxRecDepth 100000 in
theorem runes_not.calls (k : Nat) (A0 : Option Addr) (c0 : Nat) (l0 : List (S36)) (r : List (S36)) (w : World) (hr0 : Kd.C k36 w A0 l0.length l0) (hc0 : l0.length ≤ c0) (h : runes_not.f k l0 = some r) :
  Calls Tryd.prog 50 #[.slice A0 l0.length c0] w fun e w' => ∃ v0_ : Value, e = .returned (v0_) ∧ Kd.R k36 36 w' w.heap.size (fun _ => True) v0_ r ∧ Below w.heap.size w w' := by
 have hu36 := Tryd.underlying36
 have HR0 := Aside0.mk hr0
 have HC0 := Aside0.mk hc0
 clear hr0 hc0
 have HB := Aside0.mk (Below.refl w.heap.size w)
 have H : (runes_not.l0 k ([] : List (S36)) 0 l0 (l0.length : Int) 0) = some r := h
 clear h
 have H' := Aside0.mk H
 clear H
 go_enter Tryd.func50, Tryd.ntmps50
 go_wp2
 go_loopg [3, 4, 9] k (fun kq v3 v4 v9 w' => ∃ (x3_1 : List (S36)) (x4_1 : Int) (x9_1 : Int), v4 = .int .i32 x4_1 ∧ v9 = .int .i64 x9_1 ∧ Aside0 (runes_not.l0 kq x3_1 x4_1 l0 (l0.length : Int) x9_1 = some r) ∧ Aside0 (kq ≤ k) ∧ Aside0 (Kd.R k36 36 w' w.heap.size (fun _ => True) v3 x3_1) ∧ Aside0 (Below w.heap.size w w'))
 case atStart => exact ⟨(([] : List (S36))), (0), (0), Z4, Z4, H', ⟨Nat.le_refl _⟩, ⟨Z5⟩, ⟨Z0⟩⟩
 case round =>
  clear H'
  obtain ⟨x3_1, x4_1, x9_1, rfl, rfl, HA, HK1, HO_3, HB⟩ := hrel
  cases gk with
  | zero => exact absurd HA.out (by simp [runes_not.l0])
  | succ k1 =>
   have H := HA.out
   clear HA
   simp only [runes_not.l0] at H
   by_cases c2 : x9_1 < (l0.length : Int)
   ·rw [if_pos c2] at H
    have c2b0 := decide_eq_true c2
    clear c2
    by_cases c3 : 0 ≤ x9_1
    ·rw [if_pos c3] at H
     have c3b0 := decide_eq_true c3
     clear c3
     by_cases c4 : x9_1 < (l0.length : Int)
     ·rw [if_pos c4] at H
      have c4b0 := decide_eq_true c4
      clear c4
      by_cases c5 : ((rd_T36 l0 x9_1).f0) > x4_1
      ·rw [if_pos c5] at H
       have c5b0 : decide (x4_1 < ((rd_T36 l0 x9_1).f0)) = true := decide_eq_true c5
       clear c5
       by_cases c6 : x3_1.length < 17592186044416
       ·rw [if_pos c6] at H
        have LMc6 := Aside0.mk c6
        clear c6
        obtain ⟨y345, hy345⟩ : ∃ y_ : List (S36), y_ = (x3_1 ++ [(⟨x4_1, wrap32 (((rd_T36 l0 x9_1).f0) - 1)⟩ : S36)]) := ⟨_, rfl⟩
        replace H : (runes_not.l0 k1 y345 (wrap32 (((rd_T36 l0 x9_1).f1) + 1)) l0 (l0.length : Int) (wrap64 (x9_1 + 1))) = some r := by first | (rw [hy345]; with_reducible exact H) | (have H2_ := (Option.bind_some _ _).symm.trans H; rw [hy345]; with_reducible exact H2_) | (have H2_ := (Option.bind_some _ _).symm.trans H; with_reducible exact H2_) | with_reducible exact H | (rw [hy345]; exact H) | exact H
        have Ny345 := Aside0.mk hy345
        clear hy345
        have H' := Aside0.mk H
        clear H
        have p343 : 0 ≤ (x9_1 : Int) := of_decide_eq_true Z2
        have q343 : x9_1 < (l0.length : Int) := of_decide_eq_true Z2
        obtain ⟨ad343, e343, hx343_0, hx343_1⟩ := at_T36 HR0.out x9_1 p343 q343
        cases e343
        replace hx343_0 := (HB.out.cell (World.block_lt_of_cell? w _ hx343_0)).trans hx343_0
        replace hx343_1 := (HB.out.cell (World.block_lt_of_cell? w _ hx343_1)).trans hx343_1
        replace p343 := eq_true p343
        replace q343 := eq_true q343
        go_wp2_with (first | ((with_reducible refine gate_dst (N := 6) rfl ?_); refine box_event ?hg (N := 6) ?hd (cs := #[.int .i32 0, .int .i32 0]) (t := 36) ?hr ?_; (case hd => rfl); (case hg => rfl); (case hr => first | (go_simp; done) | (go_simp; rfl)); intro gb344 hg w7 hbox hb; replace HO_3 := Aside0.mk (Kd.R_below (Kd.R_elderB (kK HO_3) gb344 (Nat.le_of_eq hg.symm)) hb); have BK344 := Aside0.mk (hbox); have GW344 := gE hg zB; have GE344 := gE hg zB; replace HB := Aside0.mk (below_step zB hb); clear hb hbox hg; have hcz8_0 := bC BK344 0 (.int .i32 0); have hcz8_1 := bC BK344 1 (.int .i32 0); have hfz8_0 := blk_frozen BK344.out 0; have hfz8_1 := blk_frozen BK344.out 1) | ((with_reducible refine gate_builtin (b := .append) (xs := #[.tmp 17, .tmp 23]) rfl ?_); at_builtin; refine Kd.R_append k36 (w0 := w) w.heap.size rfl (.tmp 17) (.tmp 23) 22 36 (.agg #[(.int .i32 0), (.int .i32 0)]) 8 rfl Tryd.underlying22 info36 rfl Z28 Z19 u3 x3_1 (⟨x4_1, wrap32 (((rd_T36 l0 x9_1).f0) - 1)⟩ : S36) [.int .i32 x4_1, .int .i32 (wrap32 (((rd_T36 l0 x9_1).f0) - 1))] (fun k_ => k_ ≠ gb344) (fun _ => False) rfl (by first | (go_simp; done) | (go_simp; rfl)) ?aP (fun _ hk => hk.elim) ?aF ?aO ?aB ?aS ?aL ?_; (case aP => exact k36_mkM _ _ _ (⟨x4_1, wrap32 (((rd_T36 l0 x9_1).f0) - 1)⟩ : S36)); (case aB => exact zB); (case aF => exact (fun k_ hk => Kd.freshB (g := gb344) (o := .cells #[.int .i32 ((rd_T36 l0 x9_1).f0), .int .i32 ((rd_T36 l0 x9_1).f1)] 36 (0, 0)) (by (with_reducible repeat (first | refine blk_drewN ?_ _ | refine blk_drew ?_ | refine blk_alloc ?_ _)); refine blk_put (cs := #[.int .i32 ((rd_T36 l0 x9_1).f0), .int .i32 0]) ?_ 1 _ rfl; (with_reducible repeat (first | refine blk_drewN ?_ _ | refine blk_drew ?_ | refine blk_alloc ?_ _)); refine blk_put (cs := #[.int .i32 0, .int .i32 0]) ?_ 0 _ rfl; (with_reducible repeat (first | refine blk_drewN ?_ _ | refine blk_drew ?_ | refine blk_alloc ?_ _)); exact BK344.out) k_ hk)); (case aO => exact (by (with_reducible repeat (first | apply Kd.R_alloc | apply Kd.R_drewN | apply Kd.R_drew)); exact Kd.R_mono (Kd.R_far (p := ⟨gb344, 1, none⟩) (Kd.R_far (p := ⟨gb344, 0, none⟩) (Kd.R_mono HO_3.out (fun k_ hk => (⟨hk, hk.2⟩ : _ ∧ k_ ≠ gb344))) (fun _ hk => hk.2) (.int .i32 ((rd_T36 l0 x9_1).f0))) (fun _ hk => hk.2) (.int .i32 ((rd_T36 l0 x9_1).f1))) (fun _ hk => hk.1.2))); (case aS => exact (below_size zB)); (case aL => have := LMc6.out; omega); intro v346 w9 ho hb hg hat; rw [← Ny345.out] at ho; have n0_ := Aside0.mk (blk_grown (g := gb344) (o := .cells #[.int .i32 ((rd_T36 l0 x9_1).f0), .int .i32 ((rd_T36 l0 x9_1).f1)] 36 (0, 0)) (by (with_reducible repeat (first | refine blk_drewN ?_ _ | refine blk_drew ?_ | refine blk_alloc ?_ _)); refine blk_put (cs := #[.int .i32 ((rd_T36 l0 x9_1).f0), .int .i32 0]) ?_ 1 _ rfl; (with_reducible repeat (first | refine blk_drewN ?_ _ | refine blk_drew ?_ | refine blk_alloc ?_ _)); refine blk_put (cs := #[.int .i32 0, .int .i32 0]) ?_ 0 _ rfl; (with_reducible repeat (first | refine blk_drewN ?_ _ | refine blk_drew ?_ | refine blk_alloc ?_ _)); exact BK344.out) hg (Kd.R_away HO_3.out (fun _ hk => hk.2))); have n1_ := Aside0.mk (hb); have n2_ := Aside0.mk (ho); clear BK344; clear HB; clear HO_3; have BK344 := n0_; have HB := n1_; have HO347 := n2_; clear n0_ n1_ n2_; clear ho hb hg hat; have hcz10_0 := bC BK344 0 (.int .i32 ((rd_T36 l0 x9_1).f0)); have hcz10_1 := bC BK344 1 (.int .i32 ((rd_T36 l0 x9_1).f1)); have hfz10_0 := blk_frozen BK344.out 0; have hfz10_1 := blk_frozen BK344.out 1))
        go_roundg k1
        case measure => have := HK1.out; omega
        case rel => exact ⟨(y345), (wrap32 (((rd_T36 l0 x9_1).f1) + 1)), (wrap64 (x9_1 + 1)), Z4, Z4, H', ⟨Z20⟩, ⟨by (with_reducible repeat (first | apply Kd.R_alloc | apply Kd.R_drewN | apply Kd.R_drew)); exact Kd.R_mono HO347.out (fun _ hk => trivial)⟩, ⟨Z0⟩⟩
       ·rw [if_neg c6] at H
        exact absurd H Z23
      ·rw [if_neg c5] at H
       have c5b0 : decide (x4_1 < ((rd_T36 l0 x9_1).f0)) = false := decide_eq_false c5
       clear c5
       have H' := Aside0.mk H
       clear H
       have p343 : 0 ≤ (x9_1 : Int) := of_decide_eq_true Z2
       have q343 : x9_1 < (l0.length : Int) := of_decide_eq_true Z2
       obtain ⟨ad343, e343, hx343_0, hx343_1⟩ := at_T36 HR0.out x9_1 p343 q343
       cases e343
       replace hx343_0 := (HB.out.cell (World.block_lt_of_cell? w _ hx343_0)).trans hx343_0
       replace hx343_1 := (HB.out.cell (World.block_lt_of_cell? w _ hx343_1)).trans hx343_1
       replace p343 := eq_true p343
       replace q343 := eq_true q343
       go_wp2_with (first | ((with_reducible refine gate_dst (N := 6) rfl ?_); refine box_event ?hg (N := 6) ?hd (cs := #[.int .i32 0, .int .i32 0]) (t := 36) ?hr ?_; (case hd => rfl); (case hg => rfl); (case hr => first | (go_simp; done) | (go_simp; rfl)); intro gb344 hg w11 hbox hb; replace HO_3 := Aside0.mk (Kd.R_below (Kd.R_elderB (kK HO_3) gb344 (Nat.le_of_eq hg.symm)) hb); have BK344 := Aside0.mk (hbox); have GW344 := gE hg zB; have GE344 := gE hg zB; replace HB := Aside0.mk (below_step zB hb); clear hb hbox hg; have hcz12_0 := bC BK344 0 (.int .i32 0); have hcz12_1 := bC BK344 1 (.int .i32 0); have hfz12_0 := blk_frozen BK344.out 0; have hfz12_1 := blk_frozen BK344.out 1))
       go_roundg k1
       case measure => have := HK1.out; omega
       case rel => exact ⟨(x3_1), (wrap32 (((rd_T36 l0 x9_1).f1) + 1)), (wrap64 (x9_1 + 1)), Z4, Z4, H', ⟨Z20⟩, ⟨by (with_reducible repeat (first | apply Kd.R_alloc | apply Kd.R_drewN | apply Kd.R_drew)); exact Kd.R_mono (Kd.R_far (p := ⟨gb344, 1, none⟩) (Kd.R_far (p := ⟨gb344, 0, none⟩) (Kd.R_mono HO_3.out (fun k_ hk => (⟨hk, hk.2⟩ : _ ∧ k_ ≠ gb344))) (fun _ hk => hk.2) (.int .i32 ((rd_T36 l0 x9_1).f0))) (fun _ hk => hk.2) (.int .i32 ((rd_T36 l0 x9_1).f1))) (fun _ hk => trivial)⟩, ⟨Z0⟩⟩
     ·rw [if_neg c4] at H
      exact absurd H Z23
    ·rw [if_neg c3] at H
     exact absurd H Z23
   ·rw [if_neg c2] at H
    have c2b0 := decide_eq_false c2
    clear c2
    by_cases c13 : x4_1 ≤ 1114111
    ·rw [if_pos c13] at H
     have c13b0 := decide_eq_true c13
     clear c13
     by_cases c14 : x3_1.length < 17592186044416
     ·rw [if_pos c14] at H
      have LMc14 := Aside0.mk c14
      clear c14
      obtain ⟨y348, hy348⟩ : ∃ y_ : List (S36), y_ = (x3_1 ++ [(⟨x4_1, 1114111⟩ : S36)]) := ⟨_, rfl⟩
      replace H : (some y348) = some r := by first | (rw [hy348]; with_reducible exact H) | (have H2_ := (Option.bind_some _ _).symm.trans H; rw [hy348]; with_reducible exact H2_) | (have H2_ := (Option.bind_some _ _).symm.trans H; with_reducible exact H2_) | with_reducible exact H | (rw [hy348]; exact H) | exact H
      have Ny348 := Aside0.mk hy348
      clear hy348
      obtain rfl := Option.some.inj H
      go_wp2_with (first | ((with_reducible refine gate_builtin (b := .append) (xs := #[.tmp 31, .tmp 34]) rfl ?_); at_builtin; refine Kd.R_append k36 (w0 := w) w.heap.size rfl (.tmp 31) (.tmp 34) 22 36 (.agg #[(.int .i32 0), (.int .i32 0)]) 8 rfl Tryd.underlying22 info36 rfl Z28 Z19 u3 x3_1 (⟨x4_1, 1114111⟩ : S36) [.int .i32 x4_1, .int .i32 1114111] (fun _ => True) (fun _ => False) rfl rfl ?aP (fun _ hk => hk.elim) ?aF ?aO ?aB ?aS ?aL ?_; (case aP => exact k36_mkM _ _ _ (⟨x4_1, 1114111⟩ : S36)); (case aB => exact zB); (case aF => exact (fun _ _ => trivial)); (case aO => exact (kK HO_3)); (case aS => exact (below_size zB)); (case aL => have := LMc14.out; omega); intro v349 w15 ho hb hg hat; rw [← Ny348.out] at ho; have n0_ := Aside0.mk (hb); have n1_ := Aside0.mk (ho); clear HB; clear HO_3; have HB := n0_; have HO350 := n1_; clear n0_ n1_; clear ho hb hg hat))
      go_ret
      exact ⟨_, Z3, by (with_reducible repeat (first | apply Kd.R_alloc | apply Kd.R_drewN | apply Kd.R_drew)); exact HO350.out, Z0⟩
     ·rw [if_neg c14] at H
      exact absurd H Z23
    ·rw [if_neg c13] at H
     have c13b0 := decide_eq_false c13
     clear c13
     obtain rfl := Option.some.inj H
     go_wp2
     go_ret
     exact ⟨_, Z3, Z25, Z0⟩
def runes_Minus.f (k : Nat) (l0 : List (S36)) (l1 : List (S36)) : Option ((List (S36)) × Int) := (runes_checked.f k (([l0, l1] : List (List (S36))))).bind fun t354 => (if t354 = 0 then ((runes_not.f k l1).bind fun t355 => ((runes_both.f k l0 t355).bind fun t358 => ((runes_made.f k t358).bind fun bt361 => (some (bt361.1, bt361.2))))) else (some (([] : List (S36)), t354)))
set_option maxHeartbeats 8000000 in
set_option maxRecDepth 100000 in
theorem runes_Minus.calls (k : Nat) (P0_ : Nat → Prop) (A0 : Option Addr) (c0 : Nat) (l0 : List (S36)) (P1_ : Nat → Prop) (A1 : Option Addr) (c1 : Nat) (l1 : List (S36)) (r1 : List (S36)) (r2 : Int) (w : World) (hs0 : Kd.V k36 36 w w.heap.size (fun k_ => P0_ k_) (.slice A0 l0.length c0) l0) (hs1 : Kd.V k36 36 w w.heap.size (fun k_ => P1_ k_) (.slice A1 l1.length c1) l1) (h : runes_Minus.f k l0 l1 = some (r1, r2)) :
  Calls Tryd.prog 27 #[.slice A0 l0.length c0, .slice A1 l1.length c1] w fun e w' => ∃ v0_ : Value, e = .returned (.tuple #[v0_, .int .i64 r2]) ∧ Kd.R k36 36 w' w.heap.size (fun k_ => (w.heap.size ≤ k_)) v0_ r1 ∧ Below w.heap.size w w' := by
 have HO0 := Aside0.mk (show Kd.V k36 36 w w.heap.size (fun k_ => ((P0_ k_ ∨ P1_ k_) ∨ w.heap.size ≤ k_)) (.slice A0 l0.length c0) l0 from Kd.V_mono hs0 (fun k_ hk => .inl (.inl hk)))
 have HO1 := Aside0.mk (show Kd.V k36 36 w w.heap.size (fun k_ => ((P0_ k_ ∨ P1_ k_) ∨ w.heap.size ≤ k_)) (.slice A1 l1.length c1) l1 from Kd.V_mono hs1 (fun k_ hk => .inl (.inr hk)))
 have HB := Aside0.mk (Below.refl w.heap.size w)
 have H : ((runes_checked.f k (([l0, l1] : List (List (S36))))).bind fun t354 => (if t354 = 0 then ((runes_not.f k l1).bind fun t355 => ((runes_both.f k l0 t355).bind fun t358 => ((runes_made.f k t358).bind fun bt361 => (some (bt361.1, bt361.2))))) else (some (([] : List (S36)), t354)))) = some (r1, r2) := h
 clear h
 obtain ⟨y351, hy351⟩ : ∃ y_ : List (List (S36)), y_ = (([l0, l1] : List (List (S36)))) := ⟨_, rfl⟩
 replace H : ((runes_checked.f k y351).bind fun t354 => (if t354 = 0 then ((runes_not.f k l1).bind fun t355 => ((runes_both.f k l0 t355).bind fun t358 => ((runes_made.f k t358).bind fun bt361 => (some (bt361.1, bt361.2))))) else (some (([] : List (S36)), t354)))) = some (r1, r2) := by first | (rw [hy351]; with_reducible exact H) | (have H2_ := (Option.bind_some _ _).symm.trans H; rw [hy351]; with_reducible exact H2_) | (have H2_ := (Option.bind_some _ _).symm.trans H; with_reducible exact H2_) | with_reducible exact H | (rw [hy351]; exact H) | exact H
 have Ny351 := Aside0.mk hy351
 clear hy351
 replace H := bS H
 obtain ⟨t354, A3, H⟩ := H
 try dsimp only at H
 by_cases c4 : t354 = 0
 ·rw [if_pos c4] at H
  have c4b0 := e1 c4
  have c4b1 := e2 c4
  clear c4
  replace H := bS H
  obtain ⟨t355, A5, H⟩ := H
  try dsimp only at H
  replace H := bS H
  obtain ⟨t358, A6, H⟩ := H
  try dsimp only at H
  replace H := bS H
  obtain ⟨⟨t361, t362⟩, A7, H⟩ := H
  try dsimp only at H
  simp only [Option.some.injEq, Prod.mk.injEq] at H
  obtain ⟨rfl, rfl⟩ := H
  go_enter Tryd.func27, Tryd.ntmps27
  go_wp2_with (first | ((with_reducible refine gate_dst (N := 9) rfl ?_); refine Kd.N_lit (Kd.slice 36 k36) _ 22 ?hg (N' := 9) ?hd (xs := ([l0, l1] : List (List (S36)))) (inner := [.slice A0 l0.length c0, .slice A1 l1.length c1]) (ok := (fun k_ => ((P0_ k_ ∨ P1_ k_) ∨ w.heap.size ≤ k_))) (okp := (fun k_ => ((P0_ k_ ∨ P1_ k_) ∨ w.heap.size ≤ k_))) ?hr ?hp (fun _ hk => hk) ((show ∀ k_, w.heap.size ≤ k_ → (fun k_ => ((P0_ k_ ∨ P1_ k_) ∨ w.heap.size ≤ k_)) k_ from fun k_ hk => (.inr (Nat.le_trans (below_size zB) hk))) _ (Nat.le_refl _)) (Below.refl _ _) (Nat.le_refl _) Z23 ?_; (case hd => rfl); (case hg => rfl); (case hr => first | (go_simp; done) | (go_simp; rfl)); (case hp => exact (Reps.one (show Kd.FK (Kd.slice 36 k36) _ _ l0 [.slice A0 l0.length c0] from (Kd.FK_slice_mk (Kd.V_reads' (Kd.V_mono (ok' := (fun k_ => ((P0_ k_ ∨ P1_ k_) ∨ w.heap.size ≤ k_))) (HO0.out) (fun k_ hk => hk))).2.1 (Kd.V_F (Kd.V_mono (ok' := (fun k_ => ((P0_ k_ ∨ P1_ k_) ∨ w.heap.size ≤ k_))) (HO0.out) (fun k_ hk => hk))))) (Reps.one (show Kd.FK (Kd.slice 36 k36) _ _ l1 [.slice A1 l1.length c1] from (Kd.FK_slice_mk (Kd.V_reads' (Kd.V_mono (ok' := (fun k_ => ((P0_ k_ ∨ P1_ k_) ∨ w.heap.size ≤ k_))) (HO1.out) (fun k_ hk => hk))).2.1 (Kd.V_F (Kd.V_mono (ok' := (fun k_ => ((P0_ k_ ∨ P1_ k_) ∨ w.heap.size ≤ k_))) (HO1.out) (fun k_ hk => hk))))) (Reps.none _ _)))); intro v352 w8 ho9 hb hg_ hnew_; clear hg_ hnew_; (first | rw [← Ny351.out] at ho9 | (simp only [Int.reduceToNat] at ho9; rw [← Ny351.out] at ho9)); have n0_ := Aside0.mk (Kd.V_elder' Z6 (Kd.N_base ho9) hb); have n1_ := Aside0.mk (Kd.V_elder' Z9 (Kd.N_base ho9) hb); have n2_ := Aside0.mk (Kd.N_lower ho9 (below_size zB)); have n3_ := Aside0.mk (below_step zB hb); clear HO0; clear HO1; clear HB; have HO0 := n0_; have HO1 := n1_; have HO353 := n2_; have HB := n3_; clear n0_ n1_ n2_ n3_; clear hb ho9; obtain ⟨Ao10, co10, eo10⟩ := Kd.N_slice HO353.out; subst eo10) | ((with_reducible refine gC 46 rfl ?_); refine goesL_ (some 10) rfl rfl Tryd.func46 Z8 rfl #[.slice Ao10 y351.length co10] rfl Z1 ?_; (with_reducible refine (runes_checked.calls k _ _ y351 t354 _ ?side1 ?side2 A3.out).mono ?_); (case side1 => repeat (first | exact (Kd.N_reads' HO353.out).2.2 | (with_reducible refine Kd.C_alloc ?_ _) | (with_reducible refine Kd.C_drewN ?_ _) | (with_reducible refine Kd.C_drew ?_))); (case side2 => exact (Kd.N_reads' HO353.out).2.1); rintro e w11 ⟨rfl, hb⟩; refine ⟨_, rfl, ?_⟩; have n0_ := Aside0.mk (Kd.V_below Z6 hb); have n1_ := Aside0.mk (Kd.V_below Z9 hb); have n2_ := Aside0.mk (Kd.N_below Z21 hb); have n3_ := Aside0.mk (below_step zB hb); clear HO0; clear HO1; clear HO353; clear HB; have HO0 := n0_; have HO1 := n1_; have HO353 := n2_; have HB := n3_; clear n0_ n1_ n2_ n3_; (try clear hb); (try clear hb2); (try clear hk); (try clear hi)) | ((with_reducible refine gC 50 rfl ?_); refine goesL_ (some 16) rfl rfl Tryd.func50 Z8 rfl #[.slice A1 l1.length c1] rfl Z1 ?_; (with_reducible refine (runes_not.calls k _ _ l1 t355 _ ?side1 ?side2 A5.out).mono ?_); (case side1 => repeat (first | exact (Kd.V_reads' HO1.out).2.2 | (with_reducible refine Kd.C_alloc ?_ _) | (with_reducible refine Kd.C_drewN ?_ _) | (with_reducible refine Kd.C_drew ?_))); (case side2 => exact (Kd.V_reads' HO1.out).2.1); rintro e w12 ⟨v356, rfl, ho0, hb⟩; refine ⟨_, rfl, ?_⟩; have n0_ := Aside0.mk (Kd.V_elder' Z6 (Kd.R_base ho0) hb); have n1_ := Aside0.mk (Kd.V_elder' Z9 (Kd.R_base ho0) hb); have n2_ := Aside0.mk (Kd.N_elder' Z21 (Kd.R_base ho0) hb); have n3_ := Aside0.mk (Kd.R_lower (Kd.R_newM (M := fun k_ => (w.heap.size ≤ k_)) ho0 (below_size zB) (fun k_ h_ => h_)) (below_size zB)); have n4_ := Aside0.mk (below_step zB hb); clear HO0; clear HO1; clear HO353; clear HB; have HO0 := n0_; have HO1 := n1_; have HO353 := n2_; have HO357 := n3_; have HB := n4_; clear n0_ n1_ n2_ n3_ n4_; (try clear hb); (try clear hb2); (try clear hk); (try clear hi); (try clear ho0); obtain ⟨Ao13, co13, eo13⟩ := Kd.R_slice HO357.out; subst eo13) | ((with_reducible refine gC 49 rfl ?_); refine goesL_ (some 17) rfl rfl Tryd.func49 Z8 rfl #[.slice A0 l0.length c0, .slice Ao13 t355.length co13] rfl Z1 ?_; (with_reducible refine (runes_both.calls k _ _ l0 _ _ t355 t358 _ ?side1 ?side2 ?side3 ?side4 A6.out).mono ?_); (case side1 => repeat (first | exact (Kd.V_reads' HO0.out).2.2 | (with_reducible refine Kd.C_alloc ?_ _) | (with_reducible refine Kd.C_drewN ?_ _) | (with_reducible refine Kd.C_drew ?_))); (case side2 => exact (Kd.V_reads' HO0.out).2.1); (case side3 => repeat (first | exact (Kd.R_reads' HO357.out).2.2 | (with_reducible refine Kd.C_alloc ?_ _) | (with_reducible refine Kd.C_drewN ?_ _) | (with_reducible refine Kd.C_drew ?_))); (case side4 => exact (Kd.R_reads' HO357.out).2.1); rintro e w14 ⟨v359, rfl, ho0, hb⟩; refine ⟨_, rfl, ?_⟩; have n0_ := Aside0.mk (Kd.V_elder' Z6 (Kd.R_base ho0) hb); have n1_ := Aside0.mk (Kd.V_elder' Z9 (Kd.R_base ho0) hb); have n2_ := Aside0.mk (Kd.N_elder' Z21 (Kd.R_base ho0) hb); have n3_ := Aside0.mk (Kd.R_elder' (kK HO357) (Kd.R_base ho0) hb); have n4_ := Aside0.mk (Kd.R_lower (Kd.R_new' (Kd.R_newM (M := fun k_ => (w.heap.size ≤ k_)) ho0 (below_size zB) (fun k_ h_ => h_)) (Kd.R_lt (kK HO357))) (below_size zB)); have n5_ := Aside0.mk (below_step zB hb); clear HO0; clear HO1; clear HO353; clear HO357; clear HB; have HO0 := n0_; have HO1 := n1_; have HO353 := n2_; have HO357 := n3_; have HO360 := n4_; have HB := n5_; clear n0_ n1_ n2_ n3_ n4_ n5_; (try clear hb); (try clear hb2); (try clear hk); (try clear hi); (try clear ho0); obtain ⟨Ao15, co15, eo15⟩ := Kd.R_slice HO360.out; subst eo15) | ((with_reducible refine gC 41 rfl ?_); refine goesL_ (some 18) rfl rfl Tryd.func41 Z8 rfl #[.slice Ao15 t358.length co15] rfl Z1 ?_; (with_reducible refine (runes_made.calls k _ _ t358 t361 t362 _ ?side1 ?side2 A7.out).mono ?_); (case side1 => repeat (first | exact (Kd.R_reads' HO360.out).2.2 | (with_reducible refine Kd.C_alloc ?_ _) | (with_reducible refine Kd.C_drewN ?_ _) | (with_reducible refine Kd.C_drew ?_))); (case side2 => exact (Kd.R_reads' HO360.out).2.1); rintro e w16 ⟨v363, rfl, ho0, hb⟩; refine ⟨_, rfl, ?_⟩; have n0_ := Aside0.mk (Kd.V_elder' Z6 (Kd.R_base ho0) hb); have n1_ := Aside0.mk (Kd.V_elder' Z9 (Kd.R_base ho0) hb); have n2_ := Aside0.mk (Kd.N_elder' Z21 (Kd.R_base ho0) hb); have n3_ := Aside0.mk (Kd.R_elder' (kK HO357) (Kd.R_base ho0) hb); have n4_ := Aside0.mk (Kd.R_elder' (kK HO360) (Kd.R_base ho0) hb); have n5_ := Aside0.mk (Kd.R_lower (Kd.R_new' (Kd.R_new' (Kd.R_newM (M := fun k_ => (w.heap.size ≤ k_)) ho0 (below_size zB) (fun k_ h_ => h_)) (Kd.R_lt (kK HO357))) (Kd.R_lt (kK HO360))) (below_size zB)); have n6_ := Aside0.mk (below_step zB hb); clear HO0; clear HO1; clear HO353; clear HO357; clear HO360; clear HB; have HO0 := n0_; have HO1 := n1_; have HO353 := n2_; have HO357 := n3_; have HO360 := n4_; have HO364 := n5_; have HB := n6_; clear n0_ n1_ n2_ n3_ n4_ n5_ n6_; (try clear hb); (try clear hb2); (try clear hk); (try clear hi); (try clear ho0)))
  go_ret2
  exact ⟨_, Z3, by (with_reducible repeat (first | apply Kd.R_alloc | apply Kd.R_drewN | apply Kd.R_drew)); exact Kd.R_mono HO364.out (fun _ hk => hk.1.1.1), Z0⟩
 ·rw [if_neg c4] at H
  have c4b0 := e3 c4
  have c4b1 := e4 c4
  simp only [Option.some.injEq, Prod.mk.injEq] at H
  obtain ⟨rfl, rfl⟩ := H
  go_enter Tryd.func27, Tryd.ntmps27
  go_wp2_with (first | ((with_reducible refine gate_dst (N := 9) rfl ?_); refine Kd.N_lit (Kd.slice 36 k36) _ 22 ?hg (N' := 9) ?hd (xs := ([l0, l1] : List (List (S36)))) (inner := [.slice A0 l0.length c0, .slice A1 l1.length c1]) (ok := (fun k_ => ((P0_ k_ ∨ P1_ k_) ∨ w.heap.size ≤ k_))) (okp := (fun k_ => ((P0_ k_ ∨ P1_ k_) ∨ w.heap.size ≤ k_))) ?hr ?hp (fun _ hk => hk) ((show ∀ k_, w.heap.size ≤ k_ → (fun k_ => ((P0_ k_ ∨ P1_ k_) ∨ w.heap.size ≤ k_)) k_ from fun k_ hk => (.inr (Nat.le_trans (below_size zB) hk))) _ (Nat.le_refl _)) (Below.refl _ _) (Nat.le_refl _) Z23 ?_; (case hd => rfl); (case hg => rfl); (case hr => first | (go_simp; done) | (go_simp; rfl)); (case hp => exact (Reps.one (show Kd.FK (Kd.slice 36 k36) _ _ l0 [.slice A0 l0.length c0] from (Kd.FK_slice_mk (Kd.V_reads' (Kd.V_mono (ok' := (fun k_ => ((P0_ k_ ∨ P1_ k_) ∨ w.heap.size ≤ k_))) (HO0.out) (fun k_ hk => hk))).2.1 (Kd.V_F (Kd.V_mono (ok' := (fun k_ => ((P0_ k_ ∨ P1_ k_) ∨ w.heap.size ≤ k_))) (HO0.out) (fun k_ hk => hk))))) (Reps.one (show Kd.FK (Kd.slice 36 k36) _ _ l1 [.slice A1 l1.length c1] from (Kd.FK_slice_mk (Kd.V_reads' (Kd.V_mono (ok' := (fun k_ => ((P0_ k_ ∨ P1_ k_) ∨ w.heap.size ≤ k_))) (HO1.out) (fun k_ hk => hk))).2.1 (Kd.V_F (Kd.V_mono (ok' := (fun k_ => ((P0_ k_ ∨ P1_ k_) ∨ w.heap.size ≤ k_))) (HO1.out) (fun k_ hk => hk))))) (Reps.none _ _)))); intro v352 w17 ho18 hb hg_ hnew_; clear hg_ hnew_; (first | rw [← Ny351.out] at ho18 | (simp only [Int.reduceToNat] at ho18; rw [← Ny351.out] at ho18)); have n0_ := Aside0.mk (Kd.V_elder' Z6 (Kd.N_base ho18) hb); have n1_ := Aside0.mk (Kd.V_elder' Z9 (Kd.N_base ho18) hb); have n2_ := Aside0.mk (Kd.N_lower ho18 (below_size zB)); have n3_ := Aside0.mk (below_step zB hb); clear HO0; clear HO1; clear HB; have HO0 := n0_; have HO1 := n1_; have HO353 := n2_; have HB := n3_; clear n0_ n1_ n2_ n3_; clear hb ho18; obtain ⟨Ao19, co19, eo19⟩ := Kd.N_slice HO353.out; subst eo19) | ((with_reducible refine gC 46 rfl ?_); refine goesL_ (some 10) rfl rfl Tryd.func46 Z8 rfl #[.slice Ao19 y351.length co19] rfl Z1 ?_; (with_reducible refine (runes_checked.calls k _ _ y351 t354 _ ?side1 ?side2 A3.out).mono ?_); (case side1 => repeat (first | exact (Kd.N_reads' HO353.out).2.2 | (with_reducible refine Kd.C_alloc ?_ _) | (with_reducible refine Kd.C_drewN ?_ _) | (with_reducible refine Kd.C_drew ?_))); (case side2 => exact (Kd.N_reads' HO353.out).2.1); rintro e w20 ⟨rfl, hb⟩; refine ⟨_, rfl, ?_⟩; have n0_ := Aside0.mk (Kd.V_below Z6 hb); have n1_ := Aside0.mk (Kd.V_below Z9 hb); have n2_ := Aside0.mk (Kd.N_below Z21 hb); have n3_ := Aside0.mk (below_step zB hb); clear HO0; clear HO1; clear HO353; clear HB; have HO0 := n0_; have HO1 := n1_; have HO353 := n2_; have HB := n3_; clear n0_ n1_ n2_ n3_; (try clear hb); (try clear hb2); (try clear hk); (try clear hi)))
  go_ret2
  exact ⟨_, Z3, Z5, Z0⟩
def quoinref02_Minus.f (k : Nat) (l0 : List (S36)) (l1 : List (S36)) : Option ((List (S36)) × Int) := (some (([l0, l1] : List (List (S36))) : List (List (S36)))).bind fun y365 => ((quoinref02_checked.f k y365).bind fun t368 => (if t368 = 0 then ((quoinref02_made.f k y365 2).bind fun bt369 => (some (bt369.1, bt369.2))) else (some (([] : List (S36)), t368))))
set_option maxHeartbeats 8000000 in
set_option maxRecDepth 100000 in
theorem quoinref02_Minus.calls (k : Nat) (P0_ : Nat → Prop) (A0 : Option Addr) (c0 : Nat) (l0 : List (S36)) (P1_ : Nat → Prop) (A1 : Option Addr) (c1 : Nat) (l1 : List (S36)) (r1 : List (S36)) (r2 : Int) (w : World) (hs0 : Kd.V k36 36 w w.heap.size (fun k_ => P0_ k_) (.slice A0 l0.length c0) l0) (hs1 : Kd.V k36 36 w w.heap.size (fun k_ => P1_ k_) (.slice A1 l1.length c1) l1) (h : quoinref02_Minus.f k l0 l1 = some (r1, r2)) :
  Calls Tryd.prog 28 #[.slice A0 l0.length c0, .slice A1 l1.length c1] w fun e w' => ∃ v0_ : Value, e = .returned (.tuple #[v0_, .int .i64 r2]) ∧ Kd.R k36 36 w' w.heap.size (fun k_ => (w.heap.size ≤ k_)) v0_ r1 ∧ Below w.heap.size w w' := by
 have HO0 := Aside0.mk (show Kd.V k36 36 w w.heap.size (fun k_ => ((P0_ k_ ∨ P1_ k_) ∨ w.heap.size ≤ k_)) (.slice A0 l0.length c0) l0 from Kd.V_mono hs0 (fun k_ hk => .inl (.inl hk)))
 have HO1 := Aside0.mk (show Kd.V k36 36 w w.heap.size (fun k_ => ((P0_ k_ ∨ P1_ k_) ∨ w.heap.size ≤ k_)) (.slice A1 l1.length c1) l1 from Kd.V_mono hs1 (fun k_ hk => .inl (.inr hk)))
 have HB := Aside0.mk (Below.refl w.heap.size w)
 have H : ((some (([l0, l1] : List (List (S36))) : List (List (S36)))).bind fun y365 => ((quoinref02_checked.f k y365).bind fun t368 => (if t368 = 0 then ((quoinref02_made.f k y365 2).bind fun bt369 => (some (bt369.1, bt369.2))) else (some (([] : List (S36)), t368))))) = some (r1, r2) := h
 clear h
 obtain ⟨y365, hy365⟩ : ∃ y_ : List (List (S36)), y_ = (([l0, l1] : List (List (S36)))) := ⟨_, rfl⟩
 replace H : ((quoinref02_checked.f k y365).bind fun t368 => (if t368 = 0 then ((quoinref02_made.f k y365 2).bind fun bt369 => (some (bt369.1, bt369.2))) else (some (([] : List (S36)), t368)))) = some (r1, r2) := by first | (rw [hy365]; with_reducible exact H) | (have H2_ := (Option.bind_some _ _).symm.trans H; rw [hy365]; with_reducible exact H2_) | (have H2_ := (Option.bind_some _ _).symm.trans H; with_reducible exact H2_) | with_reducible exact H | (rw [hy365]; exact H) | exact H
 have Ny365 := Aside0.mk hy365
 clear hy365
 replace H := bS H
 obtain ⟨t368, A3, H⟩ := H
 try dsimp only at H
 by_cases c4 : t368 = 0
 ·rw [if_pos c4] at H
  have c4b0 := e1 c4
  have c4b1 := e2 c4
  clear c4
  replace H := bS H
  obtain ⟨⟨t369, t370⟩, A5, H⟩ := H
  try dsimp only at H
  simp only [Option.some.injEq, Prod.mk.injEq] at H
  obtain ⟨rfl, rfl⟩ := H
  go_enter Tryd.func28, Tryd.ntmps28
  go_wp2_with (first | ((with_reducible refine gate_dst (N := 10) rfl ?_); refine Kd.N_lit (Kd.slice 36 k36) _ 22 ?hg (N' := 10) ?hd (xs := ([l0, l1] : List (List (S36)))) (inner := [.slice A0 l0.length c0, .slice A1 l1.length c1]) (ok := (fun k_ => ((P0_ k_ ∨ P1_ k_) ∨ w.heap.size ≤ k_))) (okp := (fun k_ => ((P0_ k_ ∨ P1_ k_) ∨ w.heap.size ≤ k_))) ?hr ?hp (fun _ hk => hk) ((show ∀ k_, w.heap.size ≤ k_ → (fun k_ => ((P0_ k_ ∨ P1_ k_) ∨ w.heap.size ≤ k_)) k_ from fun k_ hk => (.inr (Nat.le_trans (below_size zB) hk))) _ (Nat.le_refl _)) (Below.refl _ _) (Nat.le_refl _) Z23 ?_; (case hd => rfl); (case hg => rfl); (case hr => first | (go_simp; done) | (go_simp; rfl)); (case hp => exact (Reps.one (show Kd.FK (Kd.slice 36 k36) _ _ l0 [.slice A0 l0.length c0] from (Kd.FK_slice_mk (Kd.V_reads' (Kd.V_mono (ok' := (fun k_ => ((P0_ k_ ∨ P1_ k_) ∨ w.heap.size ≤ k_))) (HO0.out) (fun k_ hk => hk))).2.1 (Kd.V_F (Kd.V_mono (ok' := (fun k_ => ((P0_ k_ ∨ P1_ k_) ∨ w.heap.size ≤ k_))) (HO0.out) (fun k_ hk => hk))))) (Reps.one (show Kd.FK (Kd.slice 36 k36) _ _ l1 [.slice A1 l1.length c1] from (Kd.FK_slice_mk (Kd.V_reads' (Kd.V_mono (ok' := (fun k_ => ((P0_ k_ ∨ P1_ k_) ∨ w.heap.size ≤ k_))) (HO1.out) (fun k_ hk => hk))).2.1 (Kd.V_F (Kd.V_mono (ok' := (fun k_ => ((P0_ k_ ∨ P1_ k_) ∨ w.heap.size ≤ k_))) (HO1.out) (fun k_ hk => hk))))) (Reps.none _ _)))); intro v366 w6 ho7 hb hg_ hnew_; clear hg_ hnew_; (first | rw [← Ny365.out] at ho7 | (simp only [Int.reduceToNat] at ho7; rw [← Ny365.out] at ho7)); have n0_ := Aside0.mk (Kd.V_elder' Z6 (Kd.N_base ho7) hb); have n1_ := Aside0.mk (Kd.V_elder' Z9 (Kd.N_base ho7) hb); have n2_ := Aside0.mk (Kd.N_lower ho7 (below_size zB)); have n3_ := Aside0.mk (below_step zB hb); clear HO0; clear HO1; clear HB; have HO0 := n0_; have HO1 := n1_; have HO367 := n2_; have HB := n3_; clear n0_ n1_ n2_ n3_; clear hb ho7; obtain ⟨Ao8, co8, eo8⟩ := Kd.N_slice HO367.out; subst eo8) | ((with_reducible refine gC 48 rfl ?_); refine goesL_ (some 12) rfl rfl Tryd.func48 Z8 rfl #[.slice Ao8 y365.length co8] rfl Z1 ?_; (with_reducible refine (quoinref02_checked.calls k _ _ y365 t368 _ ?side1 ?side2 A3.out).mono ?_); (case side1 => repeat (first | exact (Kd.N_reads' HO367.out).2.2 | (with_reducible refine Kd.C_alloc ?_ _) | (with_reducible refine Kd.C_drewN ?_ _) | (with_reducible refine Kd.C_drew ?_))); (case side2 => exact (Kd.N_reads' HO367.out).2.1); rintro e w' ⟨rfl, ⟨nd, rfl⟩⟩; refine ⟨_, rfl, ?_⟩) | ((with_reducible refine gC 42 rfl ?_); refine goesL_ (some 17) rfl rfl Tryd.func42 Z8 rfl #[.slice Ao8 y365.length co8, .int .i64 2] rfl Z1 ?_; (with_reducible refine (quoinref02_made.calls k _ _ y365 2 t369 t370 _ ?side1 ?side2 A5.out).mono ?_); (case side1 => repeat (first | exact (Kd.N_reads' HO367.out).2.2 | (with_reducible refine Kd.C_alloc ?_ _) | (with_reducible refine Kd.C_drewN ?_ _) | (with_reducible refine Kd.C_drew ?_))); (case side2 => exact (Kd.N_reads' HO367.out).2.1); rintro e w9 ⟨v371, rfl, ho0, hb⟩; refine ⟨_, rfl, ?_⟩; have n0_ := Aside0.mk (Kd.V_elder' Z6 (Kd.R_base ho0) hb); have n1_ := Aside0.mk (Kd.V_elder' Z9 (Kd.R_base ho0) hb); have n2_ := Aside0.mk (Kd.N_elder' (by (with_reducible repeat (first | apply Kd.N_alloc | apply Kd.N_drewN | apply Kd.N_drew)); exact HO367.out) (Kd.R_base ho0) hb); have n3_ := Aside0.mk (Kd.R_lower (Kd.R_newM (M := fun k_ => (w.heap.size ≤ k_)) ho0 (below_size zB) (fun k_ h_ => h_)) (below_size zB)); have n4_ := Aside0.mk (below_step zB hb); clear HO0; clear HO1; clear HO367; clear HB; have HO0 := n0_; have HO1 := n1_; have HO367 := n2_; have HO372 := n3_; have HB := n4_; clear n0_ n1_ n2_ n3_ n4_; (try clear hb); (try clear hb2); (try clear hk); (try clear hi); (try clear ho0)))
  go_ret2
  exact ⟨_, Z3, by (with_reducible repeat (first | apply Kd.R_alloc | apply Kd.R_drewN | apply Kd.R_drew)); exact Kd.R_mono HO372.out (fun _ hk => hk.1), Z0⟩
 ·rw [if_neg c4] at H
  have c4b0 := e3 c4
  have c4b1 := e4 c4
  simp only [Option.some.injEq, Prod.mk.injEq] at H
  obtain ⟨rfl, rfl⟩ := H
  go_enter Tryd.func28, Tryd.ntmps28
  go_wp2_with (first | ((with_reducible refine gate_dst (N := 10) rfl ?_); refine Kd.N_lit (Kd.slice 36 k36) _ 22 ?hg (N' := 10) ?hd (xs := ([l0, l1] : List (List (S36)))) (inner := [.slice A0 l0.length c0, .slice A1 l1.length c1]) (ok := (fun k_ => ((P0_ k_ ∨ P1_ k_) ∨ w.heap.size ≤ k_))) (okp := (fun k_ => ((P0_ k_ ∨ P1_ k_) ∨ w.heap.size ≤ k_))) ?hr ?hp (fun _ hk => hk) ((show ∀ k_, w.heap.size ≤ k_ → (fun k_ => ((P0_ k_ ∨ P1_ k_) ∨ w.heap.size ≤ k_)) k_ from fun k_ hk => (.inr (Nat.le_trans (below_size zB) hk))) _ (Nat.le_refl _)) (Below.refl _ _) (Nat.le_refl _) Z23 ?_; (case hd => rfl); (case hg => rfl); (case hr => first | (go_simp; done) | (go_simp; rfl)); (case hp => exact (Reps.one (show Kd.FK (Kd.slice 36 k36) _ _ l0 [.slice A0 l0.length c0] from (Kd.FK_slice_mk (Kd.V_reads' (Kd.V_mono (ok' := (fun k_ => ((P0_ k_ ∨ P1_ k_) ∨ w.heap.size ≤ k_))) (HO0.out) (fun k_ hk => hk))).2.1 (Kd.V_F (Kd.V_mono (ok' := (fun k_ => ((P0_ k_ ∨ P1_ k_) ∨ w.heap.size ≤ k_))) (HO0.out) (fun k_ hk => hk))))) (Reps.one (show Kd.FK (Kd.slice 36 k36) _ _ l1 [.slice A1 l1.length c1] from (Kd.FK_slice_mk (Kd.V_reads' (Kd.V_mono (ok' := (fun k_ => ((P0_ k_ ∨ P1_ k_) ∨ w.heap.size ≤ k_))) (HO1.out) (fun k_ hk => hk))).2.1 (Kd.V_F (Kd.V_mono (ok' := (fun k_ => ((P0_ k_ ∨ P1_ k_) ∨ w.heap.size ≤ k_))) (HO1.out) (fun k_ hk => hk))))) (Reps.none _ _)))); intro v366 w10 ho11 hb hg_ hnew_; clear hg_ hnew_; (first | rw [← Ny365.out] at ho11 | (simp only [Int.reduceToNat] at ho11; rw [← Ny365.out] at ho11)); have n0_ := Aside0.mk (Kd.V_elder' Z6 (Kd.N_base ho11) hb); have n1_ := Aside0.mk (Kd.V_elder' Z9 (Kd.N_base ho11) hb); have n2_ := Aside0.mk (Kd.N_lower ho11 (below_size zB)); have n3_ := Aside0.mk (below_step zB hb); clear HO0; clear HO1; clear HB; have HO0 := n0_; have HO1 := n1_; have HO367 := n2_; have HB := n3_; clear n0_ n1_ n2_ n3_; clear hb ho11; obtain ⟨Ao12, co12, eo12⟩ := Kd.N_slice HO367.out; subst eo12) | ((with_reducible refine gC 48 rfl ?_); refine goesL_ (some 12) rfl rfl Tryd.func48 Z8 rfl #[.slice Ao12 y365.length co12] rfl Z1 ?_; (with_reducible refine (quoinref02_checked.calls k _ _ y365 t368 _ ?side1 ?side2 A3.out).mono ?_); (case side1 => repeat (first | exact (Kd.N_reads' HO367.out).2.2 | (with_reducible refine Kd.C_alloc ?_ _) | (with_reducible refine Kd.C_drewN ?_ _) | (with_reducible refine Kd.C_drew ?_))); (case side2 => exact (Kd.N_reads' HO367.out).2.1); rintro e w' ⟨rfl, ⟨nd, rfl⟩⟩; refine ⟨_, rfl, ?_⟩))
  go_ret2
  exact ⟨_, Z3, Z5, Z0⟩
def runes_Not.f (k : Nat) (l0 : List (S36)) : Option ((List (S36)) × Int) := (runes_Check.f k l0).bind fun t373 => (if t373 = 0 then ((runes_not.f k l0).bind fun t374 => ((runes_made.f k t374).bind fun bt377 => (some (bt377.1, bt377.2)))) else (some (([] : List (S36)), t373)))
set_option maxHeartbeats 8000000 in
set_option maxRecDepth 100000 in
theorem runes_Not.calls (k : Nat) (A0 : Option Addr) (c0 : Nat) (l0 : List (S36)) (r1 : List (S36)) (r2 : Int) (w : World) (hr0 : Kd.C k36 w A0 l0.length l0) (hc0 : l0.length ≤ c0) (h : runes_Not.f k l0 = some (r1, r2)) :
  Calls Tryd.prog 29 #[.slice A0 l0.length c0] w fun e w' => ∃ v0_ : Value, e = .returned (.tuple #[v0_, .int .i64 r2]) ∧ Kd.R k36 36 w' w.heap.size (fun _ => True) v0_ r1 ∧ Below w.heap.size w w' := by
 have HR0 := Aside0.mk hr0
 have HC0 := Aside0.mk hc0
 clear hr0 hc0
 have HB := Aside0.mk (Below.refl w.heap.size w)
 have H : ((runes_Check.f k l0).bind fun t373 => (if t373 = 0 then ((runes_not.f k l0).bind fun t374 => ((runes_made.f k t374).bind fun bt377 => (some (bt377.1, bt377.2)))) else (some (([] : List (S36)), t373)))) = some (r1, r2) := h
 clear h
 replace H := bS H
 obtain ⟨t373, A2, H⟩ := H
 try dsimp only at H
 by_cases c3 : t373 = 0
 ·rw [if_pos c3] at H
  have c3b0 := e1 c3
  have c3b1 := e2 c3
  clear c3
  replace H := bS H
  obtain ⟨t374, A4, H⟩ := H
  try dsimp only at H
  replace H := bS H
  obtain ⟨⟨t377, t378⟩, A5, H⟩ := H
  try dsimp only at H
  simp only [Option.some.injEq, Prod.mk.injEq] at H
  obtain ⟨rfl, rfl⟩ := H
  go_enter Tryd.func29, Tryd.ntmps29
  go_wp2_with (first | ((with_reducible refine gC 17 rfl ?_); refine goesL_ (some 6) rfl rfl Tryd.func17 Z8 rfl #[.slice A0 l0.length c0] rfl Z1 ?_; (with_reducible refine (runes_Check.calls k _ _ l0 t373 _ ?side1 ?side2 A2.out).mono ?_); (case side1 => repeat (first | exact HR0.out | (with_reducible refine Kd.C_alloc ?_ _) | (with_reducible refine Kd.C_drewN ?_ _) | (with_reducible refine Kd.C_drew ?_))); (case side2 => exact HC0.out); rintro e w6 ⟨rfl, hb⟩; refine ⟨_, rfl, ?_⟩; replace HB := Aside0.mk (below_step zB hb); (try clear hb); (try clear hb2); (try clear hk); (try clear hi)) | ((with_reducible refine gC 50 rfl ?_); refine goesL_ (some 11) rfl rfl Tryd.func50 Z8 rfl #[.slice A0 l0.length c0] rfl Z1 ?_; (with_reducible refine (runes_not.calls k _ _ l0 t374 _ ?side1 ?side2 A4.out).mono ?_); (case side1 => repeat (first | exact (Kd.C_below HR0.out HB.out) | (with_reducible refine Kd.C_alloc ?_ _) | (with_reducible refine Kd.C_drewN ?_ _) | (with_reducible refine Kd.C_drew ?_))); (case side2 => exact HC0.out); rintro e w7 ⟨v375, rfl, ho0, hb⟩; refine ⟨_, rfl, ?_⟩; have HO376 := Aside0.mk (Kd.R_lower ho0 (below_size zB)); replace HB := Aside0.mk (below_step zB hb); (try clear hb); (try clear hb2); (try clear hk); (try clear hi); (try clear ho0); obtain ⟨Ao8, co8, eo8⟩ := Kd.R_slice HO376.out; subst eo8) | ((with_reducible refine gC 41 rfl ?_); refine goesL_ (some 12) rfl rfl Tryd.func41 Z8 rfl #[.slice Ao8 t374.length co8] rfl Z1 ?_; (with_reducible refine (runes_made.calls k _ _ t374 t377 t378 _ ?side1 ?side2 A5.out).mono ?_); (case side1 => repeat (first | exact (Kd.R_reads' HO376.out).2.2 | (with_reducible refine Kd.C_alloc ?_ _) | (with_reducible refine Kd.C_drewN ?_ _) | (with_reducible refine Kd.C_drew ?_))); (case side2 => exact (Kd.R_reads' HO376.out).2.1); rintro e w9 ⟨v379, rfl, ho0, hb⟩; refine ⟨_, rfl, ?_⟩; have HO380 := Aside0.mk (Kd.R_lower (Kd.R_new' ho0 (Kd.R_lt (kK HO376))) (below_size zB)); replace HO376 := Aside0.mk (Kd.R_elder' (kK HO376) (Kd.R_base ho0) hb); replace HB := Aside0.mk (below_step zB hb); (try clear hb); (try clear hb2); (try clear hk); (try clear hi); (try clear ho0)))
  go_ret2
  exact ⟨_, Z3, by (with_reducible repeat (first | apply Kd.R_alloc | apply Kd.R_drewN | apply Kd.R_drew)); exact Kd.R_mono HO380.out (fun _ hk => trivial), Z0⟩
 ·rw [if_neg c3] at H
  have c3b0 := e3 c3
  have c3b1 := e4 c3
  simp only [Option.some.injEq, Prod.mk.injEq] at H
  obtain ⟨rfl, rfl⟩ := H
  go_enter Tryd.func29, Tryd.ntmps29
  go_wp2_with (first | ((with_reducible refine gC 17 rfl ?_); refine goesL_ (some 6) rfl rfl Tryd.func17 Z8 rfl #[.slice A0 l0.length c0] rfl Z1 ?_; (with_reducible refine (runes_Check.calls k _ _ l0 t373 _ ?side1 ?side2 A2.out).mono ?_); (case side1 => repeat (first | exact HR0.out | (with_reducible refine Kd.C_alloc ?_ _) | (with_reducible refine Kd.C_drewN ?_ _) | (with_reducible refine Kd.C_drew ?_))); (case side2 => exact HC0.out); rintro e w10 ⟨rfl, hb⟩; refine ⟨_, rfl, ?_⟩; replace HB := Aside0.mk (below_step zB hb); (try clear hb); (try clear hb2); (try clear hk); (try clear hi)))
  go_ret2
  exact ⟨_, Z3, Z5, Z0⟩
def quoinref02_Not.f (k : Nat) (l0 : List (S36)) : Option ((List (S36)) × Int) := (some (([l0] : List (List (S36))) : List (List (S36)))).bind fun y381 => ((quoinref02_checked.f k y381).bind fun t384 => (if t384 = 0 then ((quoinref02_made.f k y381 3).bind fun bt385 => (some (bt385.1, bt385.2))) else (some (([] : List (S36)), t384))))
set_option maxHeartbeats 8000000 in
set_option maxRecDepth 100000 in
theorem quoinref02_Not.calls (k : Nat) (P0_ : Nat → Prop) (A0 : Option Addr) (c0 : Nat) (l0 : List (S36)) (r1 : List (S36)) (r2 : Int) (w : World) (hs0 : Kd.V k36 36 w w.heap.size (fun k_ => P0_ k_) (.slice A0 l0.length c0) l0) (h : quoinref02_Not.f k l0 = some (r1, r2)) :
  Calls Tryd.prog 30 #[.slice A0 l0.length c0] w fun e w' => ∃ v0_ : Value, e = .returned (.tuple #[v0_, .int .i64 r2]) ∧ Kd.R k36 36 w' w.heap.size (fun k_ => (w.heap.size ≤ k_)) v0_ r1 ∧ Below w.heap.size w w' := by
 have HO0 := Aside0.mk (show Kd.V k36 36 w w.heap.size (fun k_ => (P0_ k_ ∨ w.heap.size ≤ k_)) (.slice A0 l0.length c0) l0 from Kd.V_mono hs0 (fun k_ hk => .inl hk))
 have HB := Aside0.mk (Below.refl w.heap.size w)
 have H : ((some (([l0] : List (List (S36))) : List (List (S36)))).bind fun y381 => ((quoinref02_checked.f k y381).bind fun t384 => (if t384 = 0 then ((quoinref02_made.f k y381 3).bind fun bt385 => (some (bt385.1, bt385.2))) else (some (([] : List (S36)), t384))))) = some (r1, r2) := h
 clear h
 obtain ⟨y381, hy381⟩ : ∃ y_ : List (List (S36)), y_ = (([l0] : List (List (S36)))) := ⟨_, rfl⟩
 replace H : ((quoinref02_checked.f k y381).bind fun t384 => (if t384 = 0 then ((quoinref02_made.f k y381 3).bind fun bt385 => (some (bt385.1, bt385.2))) else (some (([] : List (S36)), t384)))) = some (r1, r2) := by first | (rw [hy381]; with_reducible exact H) | (have H2_ := (Option.bind_some _ _).symm.trans H; rw [hy381]; with_reducible exact H2_) | (have H2_ := (Option.bind_some _ _).symm.trans H; with_reducible exact H2_) | with_reducible exact H | (rw [hy381]; exact H) | exact H
 have Ny381 := Aside0.mk hy381
 clear hy381
 replace H := bS H
 obtain ⟨t384, A2, H⟩ := H
 try dsimp only at H
 by_cases c3 : t384 = 0
 ·rw [if_pos c3] at H
  have c3b0 := e1 c3
  have c3b1 := e2 c3
  clear c3
  replace H := bS H
  obtain ⟨⟨t385, t386⟩, A4, H⟩ := H
  try dsimp only at H
  simp only [Option.some.injEq, Prod.mk.injEq] at H
  obtain ⟨rfl, rfl⟩ := H
  go_enter Tryd.func30, Tryd.ntmps30
  go_wp2_with (first | ((with_reducible refine gate_dst (N := 7) rfl ?_); refine Kd.N_lit (Kd.slice 36 k36) _ 22 ?hg (N' := 7) ?hd (xs := ([l0] : List (List (S36)))) (inner := [.slice A0 l0.length c0]) (ok := (fun k_ => (P0_ k_ ∨ w.heap.size ≤ k_))) (okp := (fun k_ => (P0_ k_ ∨ w.heap.size ≤ k_))) ?hr ?hp (fun _ hk => hk) ((show ∀ k_, w.heap.size ≤ k_ → (fun k_ => (P0_ k_ ∨ w.heap.size ≤ k_)) k_ from fun k_ hk => (.inr (Nat.le_trans (below_size zB) hk))) _ (Nat.le_refl _)) (Below.refl _ _) (Nat.le_refl _) Z23 ?_; (case hd => rfl); (case hg => rfl); (case hr => first | (go_simp; done) | (go_simp; rfl)); (case hp => exact (Reps.one (show Kd.FK (Kd.slice 36 k36) _ _ l0 [.slice A0 l0.length c0] from (Kd.FK_slice_mk (Kd.V_reads' (Kd.V_mono (ok' := (fun k_ => (P0_ k_ ∨ w.heap.size ≤ k_))) (HO0.out) (fun k_ hk => hk))).2.1 (Kd.V_F (Kd.V_mono (ok' := (fun k_ => (P0_ k_ ∨ w.heap.size ≤ k_))) (HO0.out) (fun k_ hk => hk))))) (Reps.none _ _))); intro v382 w5 ho6 hb hg_ hnew_; clear hg_ hnew_; (first | rw [← Ny381.out] at ho6 | (simp only [Int.reduceToNat] at ho6; rw [← Ny381.out] at ho6)); have n0_ := Aside0.mk (Kd.V_elder' Z6 (Kd.N_base ho6) hb); have n1_ := Aside0.mk (Kd.N_lower ho6 (below_size zB)); have n2_ := Aside0.mk (below_step zB hb); clear HO0; clear HB; have HO0 := n0_; have HO383 := n1_; have HB := n2_; clear n0_ n1_ n2_; clear hb ho6; obtain ⟨Ao7, co7, eo7⟩ := Kd.N_slice HO383.out; subst eo7) | ((with_reducible refine gC 48 rfl ?_); refine goesL_ (some 9) rfl rfl Tryd.func48 Z8 rfl #[.slice Ao7 y381.length co7] rfl Z1 ?_; (with_reducible refine (quoinref02_checked.calls k _ _ y381 t384 _ ?side1 ?side2 A2.out).mono ?_); (case side1 => repeat (first | exact (Kd.N_reads' HO383.out).2.2 | (with_reducible refine Kd.C_alloc ?_ _) | (with_reducible refine Kd.C_drewN ?_ _) | (with_reducible refine Kd.C_drew ?_))); (case side2 => exact (Kd.N_reads' HO383.out).2.1); rintro e w' ⟨rfl, ⟨nd, rfl⟩⟩; refine ⟨_, rfl, ?_⟩) | ((with_reducible refine gC 42 rfl ?_); refine goesL_ (some 14) rfl rfl Tryd.func42 Z8 rfl #[.slice Ao7 y381.length co7, .int .i64 3] rfl Z1 ?_; (with_reducible refine (quoinref02_made.calls k _ _ y381 3 t385 t386 _ ?side1 ?side2 A4.out).mono ?_); (case side1 => repeat (first | exact (Kd.N_reads' HO383.out).2.2 | (with_reducible refine Kd.C_alloc ?_ _) | (with_reducible refine Kd.C_drewN ?_ _) | (with_reducible refine Kd.C_drew ?_))); (case side2 => exact (Kd.N_reads' HO383.out).2.1); rintro e w8 ⟨v387, rfl, ho0, hb⟩; refine ⟨_, rfl, ?_⟩; have n0_ := Aside0.mk (Kd.V_elder' Z6 (Kd.R_base ho0) hb); have n1_ := Aside0.mk (Kd.N_elder' (by (with_reducible repeat (first | apply Kd.N_alloc | apply Kd.N_drewN | apply Kd.N_drew)); exact HO383.out) (Kd.R_base ho0) hb); have n2_ := Aside0.mk (Kd.R_lower (Kd.R_newM (M := fun k_ => (w.heap.size ≤ k_)) ho0 (below_size zB) (fun k_ h_ => h_)) (below_size zB)); have n3_ := Aside0.mk (below_step zB hb); clear HO0; clear HO383; clear HB; have HO0 := n0_; have HO383 := n1_; have HO388 := n2_; have HB := n3_; clear n0_ n1_ n2_ n3_; (try clear hb); (try clear hb2); (try clear hk); (try clear hi); (try clear ho0)))
  go_ret2
  exact ⟨_, Z3, by (with_reducible repeat (first | apply Kd.R_alloc | apply Kd.R_drewN | apply Kd.R_drew)); exact Kd.R_mono HO388.out (fun _ hk => hk.1), Z0⟩
 ·rw [if_neg c3] at H
  have c3b0 := e3 c3
  have c3b1 := e4 c3
  simp only [Option.some.injEq, Prod.mk.injEq] at H
  obtain ⟨rfl, rfl⟩ := H
  go_enter Tryd.func30, Tryd.ntmps30
  go_wp2_with (first | ((with_reducible refine gate_dst (N := 7) rfl ?_); refine Kd.N_lit (Kd.slice 36 k36) _ 22 ?hg (N' := 7) ?hd (xs := ([l0] : List (List (S36)))) (inner := [.slice A0 l0.length c0]) (ok := (fun k_ => (P0_ k_ ∨ w.heap.size ≤ k_))) (okp := (fun k_ => (P0_ k_ ∨ w.heap.size ≤ k_))) ?hr ?hp (fun _ hk => hk) ((show ∀ k_, w.heap.size ≤ k_ → (fun k_ => (P0_ k_ ∨ w.heap.size ≤ k_)) k_ from fun k_ hk => (.inr (Nat.le_trans (below_size zB) hk))) _ (Nat.le_refl _)) (Below.refl _ _) (Nat.le_refl _) Z23 ?_; (case hd => rfl); (case hg => rfl); (case hr => first | (go_simp; done) | (go_simp; rfl)); (case hp => exact (Reps.one (show Kd.FK (Kd.slice 36 k36) _ _ l0 [.slice A0 l0.length c0] from (Kd.FK_slice_mk (Kd.V_reads' (Kd.V_mono (ok' := (fun k_ => (P0_ k_ ∨ w.heap.size ≤ k_))) (HO0.out) (fun k_ hk => hk))).2.1 (Kd.V_F (Kd.V_mono (ok' := (fun k_ => (P0_ k_ ∨ w.heap.size ≤ k_))) (HO0.out) (fun k_ hk => hk))))) (Reps.none _ _))); intro v382 w9 ho10 hb hg_ hnew_; clear hg_ hnew_; (first | rw [← Ny381.out] at ho10 | (simp only [Int.reduceToNat] at ho10; rw [← Ny381.out] at ho10)); have n0_ := Aside0.mk (Kd.V_elder' Z6 (Kd.N_base ho10) hb); have n1_ := Aside0.mk (Kd.N_lower ho10 (below_size zB)); have n2_ := Aside0.mk (below_step zB hb); clear HO0; clear HB; have HO0 := n0_; have HO383 := n1_; have HB := n2_; clear n0_ n1_ n2_; clear hb ho10; obtain ⟨Ao11, co11, eo11⟩ := Kd.N_slice HO383.out; subst eo11) | ((with_reducible refine gC 48 rfl ?_); refine goesL_ (some 9) rfl rfl Tryd.func48 Z8 rfl #[.slice Ao11 y381.length co11] rfl Z1 ?_; (with_reducible refine (quoinref02_checked.calls k _ _ y381 t384 _ ?side1 ?side2 A2.out).mono ?_); (case side1 => repeat (first | exact (Kd.N_reads' HO383.out).2.2 | (with_reducible refine Kd.C_alloc ?_ _) | (with_reducible refine Kd.C_drewN ?_ _) | (with_reducible refine Kd.C_drew ?_))); (case side2 => exact (Kd.N_reads' HO383.out).2.1); rintro e w' ⟨rfl, ⟨nd, rfl⟩⟩; refine ⟨_, rfl, ?_⟩))
  go_ret2
  exact ⟨_, Z3, Z5, Z0⟩
def api_Range_51.f (l0 l1 : List S36) : Option Int := some (quoinref02_Order.ord l0 l1)
def api_Range_51.cf (x y : S36) : Int := if x.f0 < y.f0 then -1 else if x.f0 > y.f0 then 1 else if x.f1 < y.f1 then -1 else if x.f1 > y.f1 then 1 else 0
set_option maxHeartbeats 8000000 in
set_option maxRecDepth 100000 in
theorem api_Range_51.cmp (x y r : Int) (hr : (if x < y then (-1 : Int) else if x > y then 1 else 0) = r) (w : World) : Calls Tryd.prog 54 #[.int .i32 x, .int .i32 y] w fun e w' => e = .returned (.int .i64 r) ∧ Drawn0 w w' := by
 have hx : (x != x) = false := by simp
 have hy : (y != y) = false := by simp
 by_cases c1 : x < y
 ·rw [if_pos c1] at hr
  subst hr
  have d1 : decide (x < y) = true := decide_eq_true c1
  go_enter Tryd.func54, Tryd.ntmps54
  go_wp2
  go_ret
  exact ⟨rfl, Z7⟩
 rw [if_neg c1] at hr
 have d1 : decide (x < y) = false := decide_eq_false c1
 by_cases c2 : y < x
 ·rw [if_pos c2] at hr
  subst hr
  have d2 : decide (y < x) = true := decide_eq_true c2
  go_enter Tryd.func54, Tryd.ntmps54
  go_wp2
  go_ret
  exact ⟨rfl, Z7⟩
 rw [if_neg c2] at hr
 subst hr
 have d2 : decide (y < x) = false := decide_eq_false c2
 go_enter Tryd.func54, Tryd.ntmps54
 go_wp2
 go_ret
 exact ⟨rfl, Z7⟩
set_option maxHeartbeats 8000000 in
set_option maxRecDepth 100000 in
theorem api_Range_51.or (a b r : Int) (hr : (if a = 0 then b else a) = r) (q : Nat) (w : World) (h0 : w.cell? ⟨q, 0, none⟩ = some (.int .i64 a)) (h1 : w.cell? ⟨q, 1, none⟩ = some (.int .i64 b)) : Calls Tryd.prog 53 #[.slice (some ⟨q, 0, none⟩) 2 2] w fun e w' => e = .returned (.int .i64 r) ∧ Drawn0 w w' := by
 have HL := Aside0.mk hr
 clear hr
 go_enter Tryd.func53, Tryd.ntmps53
 go_wp2
 go_loopw [8] (fun i wr => ∃ (j : Int), i = .int .i64 j ∧ Aside0 (j = 0 ∨ (j = 1 ∧ a = 0) ∨ (j = 2 ∧ a = 0 ∧ b = 0)) ∧ w = wr) (fun i _ => 2 - (intOf i).toNat)
 case atStart => exact ⟨0, rfl, ⟨.inl rfl⟩, rfl⟩
 case round =>
  obtain ⟨j, rfl, HJ, rfl⟩ := hrel
  rcases HJ.out with rfl | ⟨rfl, rfl⟩ | ⟨rfl, rfl, rfl⟩
  ·clear HJ
   by_cases e : a = 0
   ·subst e
    go_wp2
    go_roundw
    case rel => exact ⟨1, rfl, ⟨Z23⟩, Z23⟩
    case measure => simp [intOf]
   ·have d : (a != 0) = true := bne_iff_ne.mpr e
    obtain rfl : a = r := by have := HL.out; rwa [if_neg e] at this
    go_wp2
    go_ret
    exact ⟨rfl, Drawn0.refl _⟩
  ·clear HJ
   obtain rfl : b = r := by have := HL.out; rwa [if_pos rfl] at this
   by_cases e : b = 0
   ·subst e
    go_wp2
    go_roundw
    case rel => exact ⟨2, rfl, ⟨Z23⟩, Z23⟩
    case measure => simp [intOf]
   ·have d : (b != 0) = true := bne_iff_ne.mpr e
    go_wp2
    go_ret
    exact ⟨rfl, Drawn0.refl _⟩
  ·clear HJ
   obtain rfl : 0 = r := by have := HL.out; rwa [if_pos rfl] at this
   go_wp2
   go_ret
   exact ⟨rfl, Drawn0.refl _⟩
set_option maxHeartbeats 8000000 in
set_option maxRecDepth 100000 in
theorem api_Range_51.closure (x0 x1 y0 y1 r : Int) (hr : api_Range_51.cf ⟨x0, x1⟩ ⟨y0, y1⟩ = r) (w : World) : Calls Tryd.prog 52 #[.agg #[.int .i32 x0, .int .i32 x1], .agg #[.int .i32 y0, .int .i32 y1]] w fun e w' => e = .returned (.int .i64 r) ∧ Below w.heap.size w w' := by
 have hr2 : (if (if x0 < y0 then (-1 : Int) else if x0 > y0 then 1 else 0) = 0 then (if x1 < y1 then (-1 : Int) else if x1 > y1 then 1 else 0) else (if x0 < y0 then (-1 : Int) else if x0 > y0 then 1 else 0)) = r := by
  rw [← hr]
  unfold api_Range_51.cf
  by_cases c1 : x0 < y0
  ·simp [c1]
  ·by_cases c2 : x0 > y0 <;> simp [c1, c2]
 clear hr
 go_enter Tryd.func52, Tryd.ntmps52
 go_wp2_with fail
 have B1 := blk_new w (.cells #[.int .i32 x0, .int .i32 x1] 36)
 have B2 := blk_new (w.alloc (.cells #[.int .i32 x0, .int .i32 x1] 36)) (.cells #[.int .i32 y0, .int .i32 y1] 36)
 have HB := Aside0.mk (show Below w.heap.size w ((w.alloc (.cells #[.int .i32 x0, .int .i32 x1] 36)).alloc (.cells #[.int .i32 y0, .int .i32 y1] 36)) from by repeat (first | exact Below.refl _ _ | apply below_alloc))
 have hs : (w.alloc (.cells #[.int .i32 x0, .int .i32 x1] 36)).heap.size = w.heap.size + 1 := Array.size_push _
 rw [hs] at B2
 have B3 : ((w.alloc (.cells #[.int .i32 x0, .int .i32 x1] 36)).alloc (.cells #[.int .i32 y0, .int .i32 y1] 36)).heap[w.heap.size]? = some (.cells #[.int .i32 x0, .int .i32 x1] 36 (0, 0)) := by
  rw [← B1]
  exact Below.heap_alloc _ _ _ (by rw [hs]; omega)
 clear hs B1
 generalize ((w.alloc (.cells #[.int .i32 x0, .int .i32 x1] 36)).alloc (.cells #[.int .i32 y0, .int .i32 y1] 36)) = wx at HB B2 B3 ⊢
 generalize hp : w.heap.size + 1 = p at B2 ⊢
 generalize hq : w.heap.size = q at B3 HB ⊢
 have c0 := (blk_cell B3 0).trans rfl
 have c1 := (blk_cell B3 1).trans rfl
 have c2 := (blk_cell B2 0).trans rfl
 have c3 := (blk_cell B2 1).trans rfl
 clear B2 B3 hp
 have n0 := World.new_ne wx _ c0
 have n1 := World.new_ne wx _ c1
 have n2 := World.new_ne wx _ c2
 have n3 := World.new_ne wx _ c3
 obtain ⟨u0, hu0⟩ : ∃ u, (if x0 < y0 then (-1 : Int) else if x0 > y0 then 1 else 0) = u := ⟨_, rfl⟩
 obtain ⟨u1, hu1⟩ : ∃ u, (if x1 < y1 then (-1 : Int) else if x1 > y1 then 1 else 0) = u := ⟨_, rfl⟩
 rw [hu0, hu1] at hr2
 replace hr2 := Aside0.mk hr2
 replace hu0 := Aside0.mk hu0
 replace hu1 := Aside0.mk hu1
 go_region_held3 (fun w' => w'.cell? ⟨q, 0, none⟩ = some (.int .i32 x0) ∧ w'.cell? ⟨q, 1, none⟩ = some (.int .i32 x1) ∧ w'.cell? ⟨p, 0, none⟩ = some (.int .i32 y0) ∧ w'.cell? ⟨p, 1, none⟩ = some (.int .i32 y1)) (go_keep) (first | (go_at_call_of 54 (Value.int .i32 x0); refine (api_Range_51.cmp x0 y0 _ hu0.out _).mono ?_; rintro e w' ⟨rfl, ⟨n, rfl⟩⟩; dsimp only) | (go_at_call_of 54 (Value.int .i32 x1); refine (api_Range_51.cmp x1 y1 _ hu1.out _).mono ?_; rintro e w' ⟨rfl, ⟨n, rfl⟩⟩; dsimp only) | (go_at_call 53; refine (api_Range_51.or u0 u1 r hr2.out wx.heap.size _ ?_ ?_).mono ?_; (exact (blk_cell (blk_new _ _) 0).trans rfl); (exact (blk_cell (blk_new _ _) 1).trans rfl); rintro e w' ⟨rfl, ⟨n, rfl⟩⟩; dsimp only))
 go_wp2
 go_ret
 subst hq
 exact ⟨rfl, by repeat (first | exact HB.out | apply below_alloc | apply pw_below_drewN | apply below_drew1)⟩
theorem api_Range_51.drops (l : List S36) (x : Int) (h0 : 0 ≤ x) (h : x < (l.length : Int)) : l.drop x.toNat = rd_T36 l x :: l.drop (x + 1).toNat := by
 have hl : x.toNat < l.length := by omega
 rw [List.drop_eq_getElem_cons hl, show (x + 1).toNat = x.toNat + 1 from by omega]
 congr 1
 unfold rd_T36
 rw [List.getD_eq_getElem?_getD, List.getElem?_eq_getElem hl]
 rfl
theorem api_Range_51.step (x y : S36) (a b : List S36) : quoinref02_Order.ord (x :: a) (y :: b) = if api_Range_51.cf x y = 0 then quoinref02_Order.ord a b else api_Range_51.cf x y := by
 unfold api_Range_51.cf
 rw [quoinref02_Order.ord]
 by_cases c1 : x.f0 < y.f0
 ·simp [c1]
 by_cases c2 : x.f0 > y.f0
 ·simp [c1, c2]
 by_cases c3 : x.f1 < y.f1
 ·simp [c1, c2, c3]
 by_cases c4 : x.f1 > y.f1
 ·simp [c1, c2, c3, c4]
 ·simp [c1, c2, c3, c4]
set_option maxHeartbeats 8000000 in
set_option maxRecDepth 100000 in
theorem api_Range_51.calls (A0 : Option Addr) (c0 : Nat) (l0 : List (S36)) (A1 : Option Addr) (c1 : Nat) (l1 : List (S36)) (r : Int) (w : World) (hr0 : Kd.C k36 w A0 l0.length l0) (hc0 : l0.length ≤ c0) (hr1 : Kd.C k36 w A1 l1.length l1) (hc1 : l1.length ≤ c1) (h : api_Range_51.f l0 l1 = some r) :
  Calls Tryd.prog 51 #[.slice A0 l0.length c0, .slice A1 l1.length c1, .func (.func 52) #[] #[]] w fun e w' => e = .returned (.int .i64 r) ∧ Below w.heap.size w w' := by
 have HR0 := Aside0.mk hr0
 have HR1 := Aside0.mk hr1
 clear hr0 hc0 hr1 hc1
 have HB := Aside0.mk (Below.refl w.heap.size w)
 have HL := Aside0.mk (show quoinref02_Order.ord (l0.drop (0 : Int).toNat) (l1.drop (0 : Int).toNat) = r from Option.some.inj h)
 clear h
 go_enter Tryd.func51, Tryd.ntmps51
 go_wp2
 go_loopw [13] (fun i wr => ∃ (x : Int), 0 ≤ x ∧ x ≤ (l0.length : Int) ∧ x ≤ (l1.length : Int) ∧ i = .int .i64 x ∧ Aside0 (Below w.heap.size w wr) ∧ Aside0 (quoinref02_Order.ord (l0.drop x.toNat) (l1.drop x.toNat) = r)) (fun i _ => l0.length - (intOf i).toNat)
 case atStart => exact ⟨0, Z19, Z19, Z19, rfl, HB, HL⟩
 case round =>
  clear HB HL
  obtain ⟨x, hx0, hx1, hx2, rfl, HB, HL⟩ := hrel
  have hl := HL.out
  clear HL
  by_cases hlt : x < (l0.length : Int)
  ·have d1 : decide (x < (l0.length : Int)) = true := decide_eq_true hlt
   by_cases hlu : x < (l1.length : Int)
   ·have d2 : decide ((l1.length : Int) ≤ x) = false := decide_eq_false Z19
    have d3 : decide (x ≥ (l1.length : Int)) = false := decide_eq_false Z19
    rw [api_Range_51.drops l0 x hx0 hlt, api_Range_51.drops l1 x hx0 hlu, api_Range_51.step] at hl
    obtain ⟨ad, e0, h0, h1⟩ := at_T36 (Kd.C_below HR0.out HB.out) x hx0 hlt
    obtain ⟨be, e1, g0, g1⟩ := at_T36 (Kd.C_below HR1.out HB.out) x hx0 hlu
    cases e0
    cases e1
    obtain ⟨⟨t0, t1⟩, ht⟩ : ∃ t, rd_T36 l0 x = t := ⟨_, rfl⟩
    obtain ⟨⟨s0, s1⟩, hs⟩ : ∃ t, rd_T36 l1 x = t := ⟨_, rfl⟩
    rw [ht] at hl h0 h1
    rw [hs] at hl g0 g1
    clear ht hs
    dsimp only at h0 h1 g0 g1
    have hw : wrap64 (x + 1) = x + 1 := by unfold wrap64; have := HR0.out.2.1; omega
    have hw := Aside0.mk hw
    obtain ⟨u, hu⟩ : ∃ u, api_Range_51.cf ⟨t0, t1⟩ ⟨s0, s1⟩ = u := ⟨_, rfl⟩
    rw [hu] at hl
    replace hl := Aside0.mk hl
    replace hu := Aside0.mk hu
    have p0 := eq_true hx0
    have q0 := eq_true hlt
    have q1 := eq_true hlu
    have n0 := World.new_ne wr _ h0
    have n1 := World.new_ne wr _ h1
    have n2 := World.new_ne wr _ g0
    have n3 := World.new_ne wr _ g1
    have f0 := ((below_alloc (Below.refl wr.heap.size wr) (.cells #[.int .i32 t0, .int .i32 t1] 36)).cell (World.block_lt_of_cell? wr _ g0)).trans g0
    have f1 := ((below_alloc (Below.refl wr.heap.size wr) (.cells #[.int .i32 t0, .int .i32 t1] 36)).cell (World.block_lt_of_cell? wr _ g1)).trans g1
    by_cases cu : u = 0
    ·have b1 : (u != 0) = false := bne_eq_false_iff_eq.mpr cu
     have hr := hl.out
     rw [if_pos cu] at hr
     clear hl cu
     replace hr := Aside0.mk hr
     go_wp2_with fail
     refine (api_Range_51.closure t0 t1 s0 s1 _ hu.out _).mono ?_
     rintro e W1 ⟨rfl, hb⟩
     have HB2 := Aside0.mk (show Below w.heap.size w W1 from below_then (by repeat (first | exact HB.out | apply below_alloc)) (below_size (by repeat (first | exact HB.out | apply below_alloc))) hb)
     clear hb
     go_wp2
     go_roundw
     case rel => exact ⟨x + 1, Z19, Z19, Z19, by rw [hw.out], HB2, hr⟩
     case measure => simp [intOf]; omega
    ·have b1 : (u != 0) = true := bne_iff_ne.mpr cu
     obtain rfl : u = r := by have := hl.out; rwa [if_neg cu] at this
     clear hl cu
     go_wp2_with fail
     refine (api_Range_51.closure t0 t1 s0 s1 _ hu.out _).mono ?_
     rintro e W1 ⟨rfl, hb⟩
     have HB2 := Aside0.mk (show Below w.heap.size w W1 from below_then (by repeat (first | exact HB.out | apply below_alloc)) (below_size (by repeat (first | exact HB.out | apply below_alloc))) hb)
     clear hb
     go_wp2
     go_ret
     exact ⟨rfl, HB2.out⟩
   ·have d2 : decide ((l1.length : Int) ≤ x) = true := decide_eq_true Z19
    have d3 : decide (x ≥ (l1.length : Int)) = true := decide_eq_true Z19
    rw [api_Range_51.drops l0 x hx0 hlt, List.drop_eq_nil_of_le (show l1.length ≤ x.toNat by omega)] at hl
    unfold quoinref02_Order.ord at hl
    subst hl
    obtain ⟨ad, e0, h0, h1⟩ := at_T36 (Kd.C_below HR0.out HB.out) x hx0 hlt
    cases e0
    have p0 := eq_true hx0
    have q0 := eq_true hlt
    go_wp2
    go_ret
    exact ⟨rfl, by repeat (first | exact HB.out | apply below_alloc | apply pw_below_drewN | apply below_drew1)⟩
  ·have d1 : decide (x < (l0.length : Int)) = false := decide_eq_false hlt
   rw [List.drop_eq_nil_of_le (show l0.length ≤ x.toNat by omega)] at hl
   by_cases hlu : x < (l1.length : Int)
   ·have d3 : decide ((l0.length : Int) < (l1.length : Int)) = true := decide_eq_true Z19
    rw [api_Range_51.drops l1 x hx0 hlu] at hl
    unfold quoinref02_Order.ord at hl
    subst hl
    go_wp2
    go_ret
    exact ⟨rfl, HB.out⟩
   ·have d3 : decide ((l0.length : Int) < (l1.length : Int)) = false := decide_eq_false Z19
    rw [List.drop_eq_nil_of_le (show l1.length ≤ x.toNat by omega)] at hl
    unfold quoinref02_Order.ord at hl
    subst hl
    go_wp2
    go_ret
    exact ⟨rfl, HB.out⟩
end Go.Proofs.YtfnkboilepgmoaaDoor.R
