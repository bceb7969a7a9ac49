import Derived.Test.YtcajiapjdlphmaaEPre
import Derived.Test.YtcajiapjdlphmaaEabcdefx0
import Derived.Test.YtcajiapjdlphmaaEabcdefx4
import Derived.Test.YtcajiapjdlphmaaEabcdefx5
namespace Go.Proofs.Ytcajiapjdlphmaa.H
open Go.RowKit Go.Proofs.YtcajiapjdlphmaaW.PrintWords Go.Proofs.YtcajiapjdlphmaaW.PrintLast Go.Proofs.YtcajiapjdlphmaaW.PrintMore
attribute [local go_sem] max2_int min2_int max_two min_two max_three min_three max_four min_four
set_option linter.unusedVariables false
set_option linter.unusedSimpArgs false
def token_Check.l0 : Nat → List ByteArray → ByteArray → Int → List (S36) → Int → Int → Option (Int × Int)
 | 0, _, _, _, _, _, _ => none
 | k + 1, x0, x1, x8, x17, x18, x19 => if x19 < x18 then (if 0 ≤ x19 then (if x19 < (x17.length : Int) then (if ((rd_T36 x17 x19).f0) < 2 then (some (x19, 71)) else (if ((rd_T36 x17 x19).f0) ≥ (x0.length : Int) then (some (x19, 71)) else (if ((rd_T36 x17 x19).f1) < x8 then (some (x19, 71)) else (if ((rd_T36 x17 x19).f2) < ((rd_T36 x17 x19).f1) then (some (x19, 71)) else (if ((rd_T36 x17 x19).f2) > (x1.size : Int) then (some (x19, 71)) else (token_Check.l0 k x0 x1 ((rd_T36 x17 x19).f2) x17 x18 (wrap64 (x19 + 1)))))))) else (none)) else (none)) else (some (0, 0))
def token_Check.f (k : Nat) (l0 : List ByteArray) (a1 : ByteArray) (l2 : List (S36)) : Option (Int × Int) := (token_Kinds.f k l0).bind fun t441 => (if t441 = 0 then (if (l2.length : Int) > 65536 then (some (65536, 71)) else (token_Check.l0 k l0 a1 0 l2 (l2.length : Int) 0)) else (some (0, 70)))
theorem token_Check.mono_l : ∀ k, (∀ y0 y1 y2 y3 y4 y5, LeO (token_Check.l0 k y0 y1 y2 y3 y4 y5) (token_Check.l0 (k + 1) y0 y1 y2 y3 y4 y5))
 | 0 => fun _ _ _ _ _ _ r h => by simp [token_Check.l0] at h
 | k + 1 => by
  have ih0 := token_Check.mono_l k
  ·intro y0 y1 y2 y3 y4 y5
   unfold token_Check.l0
   have m0 := @token_Kinds.mono
   exact mO
theorem token_Check.mono : ∀ a0 a1 a2 k, LeO (token_Check.f k a0 a1 a2) (token_Check.f (k + 1) a0 a1 a2) := by
 intro a0 a1 a2 k
 have ih0 := token_Check.mono_l k
 unfold token_Check.f
 have m0 := @token_Kinds.mono
 exact mO
set_option maxHeartbeats 8000000 in
set_option maxRecDepth 100000 in
theorem token_Check.calls (k : Nat) (A0 : Option Addr) (c0 : Nat) (l0 : List ByteArray) (a1 : ByteArray) (A2 : Option Addr) (c2 : Nat) (l2 : List (S36)) (r1 : Int) (r2 : Int) (w : World) (hr0 : Kd.C Kd.string w A0 l0.length l0) (hc0 : l0.length ≤ c0) (hr2 : Kd.C k36 w A2 l2.length l2) (hc2 : l2.length ≤ c2) (h : token_Check.f k l0 a1 l2 = some (r1, r2)) :
  Calls Try.prog 33 #[.slice A0 l0.length c0, .string a1, .slice A2 l2.length c2] w fun e w' => e = .returned (.tuple #[.int .i64 r1, .int .i64 r2]) ∧ Below w.heap.size w w' := by
 have hu36 := Try.underlying36
 have HR0 := Aside0.mk hr0
 have HC0 := Aside0.mk hc0
 clear hr0 hc0
 have HR2 := Aside0.mk hr2
 have HC2 := Aside0.mk hc2
 clear hr2 hc2
 have HB := Aside0.mk (Below.refl w.heap.size w)
 have H : ((token_Kinds.f k l0).bind fun t441 => (if t441 = 0 then (if (l2.length : Int) > 65536 then (some (65536, 71)) else (token_Check.l0 k l0 a1 0 l2 (l2.length : Int) 0)) else (some (0, 70)))) = some (r1, r2) := h
 clear h
 replace H := bS H
 obtain ⟨t441, A4, H⟩ := H
 try dsimp only at H
 by_cases c5 : t441 = 0
 ·rw [if_pos c5] at H
  have c5b0 := e1 c5
  have c5b1 := e2 c5
  clear c5
  by_cases c6 : (l2.length : Int) > 65536
  ·rw [if_pos c6] at H
   have c6b0 : decide (65536 < (l2.length : Int)) = true := decide_eq_true c6
   have c6b1 : decide (65536 < l2.length) = true := decide_eq_true Z57
   clear c6
   simp only [Option.some.injEq, Prod.mk.injEq] at H
   obtain ⟨rfl, rfl⟩ := H
   go_enter Try.func33, Try.ntmps33
   go_wp2_with (first | (refine gL (some 12) Try.func62 #[.slice A0 l0.length c0] (h := ?_); (with_reducible refine (token_Kinds.calls k _ _ l0 t441 _ ?side1 ?side2 A4.out).mono ?_); (case side1 => repeat (first | exact HR0.out | (with_reducible refine Kd.C_alloc ?_ _) | (with_reducible refine Kd.C_drewN ?_ _) | (with_reducible refine Kd.C_drew ?_))); (case side2 => exact HC0.out); rintro e w7 ⟨rfl, hb⟩; refine ⟨_, rfl, ?_⟩; replace HB := Aside0.mk (below_step zB hb); (try clear hb); (try clear hb2); (try clear hk); (try clear hi)))
   go_ret2
   exact ⟨Z2, Z0⟩
  ·rw [if_neg c6] at H
   have c6b0 : decide (65536 < (l2.length : Int)) = false := decide_eq_false c6
   have c6b1 : decide (65536 < l2.length) = false := decide_eq_false Z57
   clear c6
   have H' := Aside0.mk H
   clear H
   go_enter Try.func33, Try.ntmps33
   go_wp2_with (first | (refine gL (some 12) Try.func62 #[.slice A0 l0.length c0] (h := ?_); (with_reducible refine (token_Kinds.calls k _ _ l0 t441 _ ?side1 ?side2 A4.out).mono ?_); (case side1 => repeat (first | exact HR0.out | (with_reducible refine Kd.C_alloc ?_ _) | (with_reducible refine Kd.C_drewN ?_ _) | (with_reducible refine Kd.C_drew ?_))); (case side2 => exact HC0.out); rintro e w8 ⟨rfl, hb⟩; refine ⟨_, rfl, ?_⟩; replace HB := Aside0.mk (below_step zB hb); (try clear hb); (try clear hb2); (try clear hk); (try clear hi)))
   go_loopg [8, 19] k (fun kq v8 v19 w' => ∃ (x8_1 : Int) (x19_1 : Int), v8 = .int .i64 x8_1 ∧ v19 = .int .i64 x19_1 ∧ Aside0 (token_Check.l0 kq l0 a1 x8_1 l2 (l2.length : Int) x19_1 = some (r1, r2)) ∧ Aside0 (kq ≤ k) ∧ Aside0 (Below w.heap.size w w'))
   case atStart => exact ⟨(0), (0), Z1, Z1, H', ⟨Nat.le_refl _⟩, ⟨Z0⟩⟩
   case round =>
    clear H'
    try clear c2
    try clear p2
    try clear c3
    try clear c5
    try clear c5b0
    try clear c5b1
    try clear c6
    try clear c6b0
    try clear c6b1
    obtain ⟨x8_1, x19_1, rfl, rfl, HA, HK1, HB⟩ := hrel
    cases gk with
    | zero => exact absurd HA.out (by simp [token_Check.l0])
    | succ k1 =>
     have H := HA.out
     clear HA
     simp only [token_Check.l0] at H
     by_cases c9 : x19_1 < (l2.length : Int)
     ·rw [if_pos c9] at H
      have c9b0 := decide_eq_true c9
      clear c9
      by_cases c10 : 0 ≤ x19_1
      ·rw [if_pos c10] at H
       have c10b0 := decide_eq_true c10
       clear c10
       by_cases c11 : x19_1 < (l2.length : Int)
       ·rw [if_pos c11] at H
        have c11b0 := decide_eq_true c11
        clear c11
        by_cases c12 : ((rd_T36 l2 x19_1).f0) < 2
        ·rw [if_pos c12] at H
         have c12b0 := decide_eq_true c12
         clear c12
         simp only [Option.some.injEq, Prod.mk.injEq] at H
         obtain ⟨rfl, rfl⟩ := H
         have p442 : 0 ≤ (x19_1 : Int) := of_decide_eq_true Z3
         have q442 : x19_1 < (l2.length : Int) := of_decide_eq_true Z3
         obtain ⟨ad442, e442, hx442_0, hx442_1, hx442_2⟩ := at_T36 HR2.out x19_1 p442 q442
         cases e442
         replace hx442_0 := (HB.out.cell (World.block_lt_of_cell? w _ hx442_0)).trans hx442_0
         replace hx442_1 := (HB.out.cell (World.block_lt_of_cell? w _ hx442_1)).trans hx442_1
         replace hx442_2 := (HB.out.cell (World.block_lt_of_cell? w _ hx442_2)).trans hx442_2
         replace p442 := eq_true p442
         replace q442 := eq_true q442
         go_wp2_with (first | ((with_reducible refine gate_dst (N := 10) rfl ?_); (try (refine gate_guard Z67 ?_; dsimp only)); refine box_event ?hg (N := 10) ?hd (cs := #[.int .i64 0, .int .i64 0, .int .i64 0]) (t := 36) ?hr ?_; (case hd => rfl); (case hg => rfl); (case hr => first | (go_simp; done) | (go_simp; rfl)); intro gb443 hg w13 hbox hb; have BK443 := Aside0.mk (hbox); have GW443 := gE hg zB; have GE443 := gE hg zB; replace HB := Aside0.mk (below_step zB hb); clear hb hbox hg; have hcz14_0 := bC BK443 0 (.int .i64 0); have hcz14_1 := bC BK443 1 (.int .i64 0); have hcz14_2 := bC BK443 2 (.int .i64 0); have hfz14_0 := blk_frozen BK443.out 0; have hfz14_1 := blk_frozen BK443.out 1; have hfz14_2 := blk_frozen BK443.out 2))
         go_ret2
         exact ⟨Z2, Z0⟩
        ·rw [if_neg c12] at H
         have c12b0 := decide_eq_false c12
         clear c12
         by_cases c15 : ((rd_T36 l2 x19_1).f0) ≥ (l0.length : Int)
         ·rw [if_pos c15] at H
          have c15b0 : decide ((l0.length : Int) ≤ ((rd_T36 l2 x19_1).f0)) = true := decide_eq_true c15
          clear c15
          simp only [Option.some.injEq, Prod.mk.injEq] at H
          obtain ⟨rfl, rfl⟩ := H
          have p442 : 0 ≤ (x19_1 : Int) := of_decide_eq_true Z3
          have q442 : x19_1 < (l2.length : Int) := of_decide_eq_true Z3
          obtain ⟨ad442, e442, hx442_0, hx442_1, hx442_2⟩ := at_T36 HR2.out x19_1 p442 q442
          cases e442
          replace hx442_0 := (HB.out.cell (World.block_lt_of_cell? w _ hx442_0)).trans hx442_0
          replace hx442_1 := (HB.out.cell (World.block_lt_of_cell? w _ hx442_1)).trans hx442_1
          replace hx442_2 := (HB.out.cell (World.block_lt_of_cell? w _ hx442_2)).trans hx442_2
          replace p442 := eq_true p442
          replace q442 := eq_true q442
          go_wp2_with (first | ((with_reducible refine gate_dst (N := 10) rfl ?_); (try (refine gate_guard Z67 ?_; dsimp only)); refine box_event ?hg (N := 10) ?hd (cs := #[.int .i64 0, .int .i64 0, .int .i64 0]) (t := 36) ?hr ?_; (case hd => rfl); (case hg => rfl); (case hr => first | (go_simp; done) | (go_simp; rfl)); intro gb443 hg w16 hbox hb; have BK443 := Aside0.mk (hbox); have GW443 := gE hg zB; have GE443 := gE hg zB; replace HB := Aside0.mk (below_step zB hb); clear hb hbox hg; have hcz17_0 := bC BK443 0 (.int .i64 0); have hcz17_1 := bC BK443 1 (.int .i64 0); have hcz17_2 := bC BK443 2 (.int .i64 0); have hfz17_0 := blk_frozen BK443.out 0; have hfz17_1 := blk_frozen BK443.out 1; have hfz17_2 := blk_frozen BK443.out 2))
          go_ret2
          exact ⟨Z2, Z0⟩
         ·rw [if_neg c15] at H
          have c15b0 : decide ((l0.length : Int) ≤ ((rd_T36 l2 x19_1).f0)) = false := decide_eq_false c15
          clear c15
          by_cases c18 : ((rd_T36 l2 x19_1).f1) < x8_1
          ·rw [if_pos c18] at H
           have c18b0 := decide_eq_true c18
           clear c18
           simp only [Option.some.injEq, Prod.mk.injEq] at H
           obtain ⟨rfl, rfl⟩ := H
           have p442 : 0 ≤ (x19_1 : Int) := of_decide_eq_true Z3
           have q442 : x19_1 < (l2.length : Int) := of_decide_eq_true Z3
           obtain ⟨ad442, e442, hx442_0, hx442_1, hx442_2⟩ := at_T36 HR2.out x19_1 p442 q442
           cases e442
           replace hx442_0 := (HB.out.cell (World.block_lt_of_cell? w _ hx442_0)).trans hx442_0
           replace hx442_1 := (HB.out.cell (World.block_lt_of_cell? w _ hx442_1)).trans hx442_1
           replace hx442_2 := (HB.out.cell (World.block_lt_of_cell? w _ hx442_2)).trans hx442_2
           replace p442 := eq_true p442
           replace q442 := eq_true q442
           go_wp2_with (first | ((with_reducible refine gate_dst (N := 10) rfl ?_); (try (refine gate_guard Z67 ?_; dsimp only)); refine box_event ?hg (N := 10) ?hd (cs := #[.int .i64 0, .int .i64 0, .int .i64 0]) (t := 36) ?hr ?_; (case hd => rfl); (case hg => rfl); (case hr => first | (go_simp; done) | (go_simp; rfl)); intro gb443 hg w19 hbox hb; have BK443 := Aside0.mk (hbox); have GW443 := gE hg zB; have GE443 := gE hg zB; replace HB := Aside0.mk (below_step zB hb); clear hb hbox hg; have hcz20_0 := bC BK443 0 (.int .i64 0); have hcz20_1 := bC BK443 1 (.int .i64 0); have hcz20_2 := bC BK443 2 (.int .i64 0); have hfz20_0 := blk_frozen BK443.out 0; have hfz20_1 := blk_frozen BK443.out 1; have hfz20_2 := blk_frozen BK443.out 2))
           go_ret2
           exact ⟨Z2, Z0⟩
          ·rw [if_neg c18] at H
           have c18b0 := decide_eq_false c18
           clear c18
           by_cases c21 : ((rd_T36 l2 x19_1).f2) < ((rd_T36 l2 x19_1).f1)
           ·rw [if_pos c21] at H
            have c21b0 := decide_eq_true c21
            clear c21
            simp only [Option.some.injEq, Prod.mk.injEq] at H
            obtain ⟨rfl, rfl⟩ := H
            have p442 : 0 ≤ (x19_1 : Int) := of_decide_eq_true Z3
            have q442 : x19_1 < (l2.length : Int) := of_decide_eq_true Z3
            obtain ⟨ad442, e442, hx442_0, hx442_1, hx442_2⟩ := at_T36 HR2.out x19_1 p442 q442
            cases e442
            replace hx442_0 := (HB.out.cell (World.block_lt_of_cell? w _ hx442_0)).trans hx442_0
            replace hx442_1 := (HB.out.cell (World.block_lt_of_cell? w _ hx442_1)).trans hx442_1
            replace hx442_2 := (HB.out.cell (World.block_lt_of_cell? w _ hx442_2)).trans hx442_2
            replace p442 := eq_true p442
            replace q442 := eq_true q442
            go_wp2_with (first | ((with_reducible refine gate_dst (N := 10) rfl ?_); (try (refine gate_guard Z67 ?_; dsimp only)); refine box_event ?hg (N := 10) ?hd (cs := #[.int .i64 0, .int .i64 0, .int .i64 0]) (t := 36) ?hr ?_; (case hd => rfl); (case hg => rfl); (case hr => first | (go_simp; done) | (go_simp; rfl)); intro gb443 hg w22 hbox hb; have BK443 := Aside0.mk (hbox); have GW443 := gE hg zB; have GE443 := gE hg zB; replace HB := Aside0.mk (below_step zB hb); clear hb hbox hg; have hcz23_0 := bC BK443 0 (.int .i64 0); have hcz23_1 := bC BK443 1 (.int .i64 0); have hcz23_2 := bC BK443 2 (.int .i64 0); have hfz23_0 := blk_frozen BK443.out 0; have hfz23_1 := blk_frozen BK443.out 1; have hfz23_2 := blk_frozen BK443.out 2))
            go_ret2
            exact ⟨Z2, Z0⟩
           ·rw [if_neg c21] at H
            have c21b0 := decide_eq_false c21
            clear c21
            by_cases c24 : ((rd_T36 l2 x19_1).f2) > (a1.size : Int)
            ·rw [if_pos c24] at H
             have c24b0 : decide ((a1.size : Int) < ((rd_T36 l2 x19_1).f2)) = true := decide_eq_true c24
             clear c24
             simp only [Option.some.injEq, Prod.mk.injEq] at H
             obtain ⟨rfl, rfl⟩ := H
             have p442 : 0 ≤ (x19_1 : Int) := of_decide_eq_true Z3
             have q442 : x19_1 < (l2.length : Int) := of_decide_eq_true Z3
             obtain ⟨ad442, e442, hx442_0, hx442_1, hx442_2⟩ := at_T36 HR2.out x19_1 p442 q442
             cases e442
             replace hx442_0 := (HB.out.cell (World.block_lt_of_cell? w _ hx442_0)).trans hx442_0
             replace hx442_1 := (HB.out.cell (World.block_lt_of_cell? w _ hx442_1)).trans hx442_1
             replace hx442_2 := (HB.out.cell (World.block_lt_of_cell? w _ hx442_2)).trans hx442_2
             replace p442 := eq_true p442
             replace q442 := eq_true q442
             go_wp2_with (first | ((with_reducible refine gate_dst (N := 10) rfl ?_); (try (refine gate_guard Z67 ?_; dsimp only)); refine box_event ?hg (N := 10) ?hd (cs := #[.int .i64 0, .int .i64 0, .int .i64 0]) (t := 36) ?hr ?_; (case hd => rfl); (case hg => rfl); (case hr => first | (go_simp; done) | (go_simp; rfl)); intro gb443 hg w25 hbox hb; have BK443 := Aside0.mk (hbox); have GW443 := gE hg zB; have GE443 := gE hg zB; replace HB := Aside0.mk (below_step zB hb); clear hb hbox hg; have hcz26_0 := bC BK443 0 (.int .i64 0); have hcz26_1 := bC BK443 1 (.int .i64 0); have hcz26_2 := bC BK443 2 (.int .i64 0); have hfz26_0 := blk_frozen BK443.out 0; have hfz26_1 := blk_frozen BK443.out 1; have hfz26_2 := blk_frozen BK443.out 2))
             go_ret2
             exact ⟨Z2, Z0⟩
            ·rw [if_neg c24] at H
             have c24b0 : decide ((a1.size : Int) < ((rd_T36 l2 x19_1).f2)) = false := decide_eq_false c24
             clear c24
             have H' := Aside0.mk H
             clear H
             have p442 : 0 ≤ (x19_1 : Int) := of_decide_eq_true Z3
             have q442 : x19_1 < (l2.length : Int) := of_decide_eq_true Z3
             obtain ⟨ad442, e442, hx442_0, hx442_1, hx442_2⟩ := at_T36 HR2.out x19_1 p442 q442
             cases e442
             replace hx442_0 := (HB.out.cell (World.block_lt_of_cell? w _ hx442_0)).trans hx442_0
             replace hx442_1 := (HB.out.cell (World.block_lt_of_cell? w _ hx442_1)).trans hx442_1
             replace hx442_2 := (HB.out.cell (World.block_lt_of_cell? w _ hx442_2)).trans hx442_2
             replace p442 := eq_true p442
             replace q442 := eq_true q442
             go_wp2_with (first | ((with_reducible refine gate_dst (N := 10) rfl ?_); (try (refine gate_guard Z67 ?_; dsimp only)); refine box_event ?hg (N := 10) ?hd (cs := #[.int .i64 0, .int .i64 0, .int .i64 0]) (t := 36) ?hr ?_; (case hd => rfl); (case hg => rfl); (case hr => first | (go_simp; done) | (go_simp; rfl)); intro gb443 hg w27 hbox hb; have BK443 := Aside0.mk (hbox); have GW443 := gE hg zB; have GE443 := gE hg zB; replace HB := Aside0.mk (below_step zB hb); clear hb hbox hg; have hcz28_0 := bC BK443 0 (.int .i64 0); have hcz28_1 := bC BK443 1 (.int .i64 0); have hcz28_2 := bC BK443 2 (.int .i64 0); have hfz28_0 := blk_frozen BK443.out 0; have hfz28_1 := blk_frozen BK443.out 1; have hfz28_2 := blk_frozen BK443.out 2))
             go_roundg k1
             case measure => have := HK1.out; omega
             case rel => exact ⟨((rd_T36 l2 x19_1).f2), (wrap64 (x19_1 + 1)), Z1, Z1, H', ⟨Z36⟩, ⟨Z0⟩⟩
       ·rw [if_neg c11] at H
        exact absurd H Z61
      ·rw [if_neg c10] at H
       exact absurd H Z61
     ·rw [if_neg c9] at H
      have c9b0 := decide_eq_false c9
      clear c9
      simp only [Option.some.injEq, Prod.mk.injEq] at H
      obtain ⟨rfl, rfl⟩ := H
      go_wp2
      go_ret2
      exact ⟨Z2, Z0⟩
 ·rw [if_neg c5] at H
  have c5b0 := e3 c5
  have c5b1 := e4 c5
  simp only [Option.some.injEq, Prod.mk.injEq] at H
  obtain ⟨rfl, rfl⟩ := H
  go_enter Try.func33, Try.ntmps33
  go_wp2_with (first | (refine gL (some 12) Try.func62 #[.slice A0 l0.length c0] (h := ?_); (with_reducible refine (token_Kinds.calls k _ _ l0 t441 _ ?side1 ?side2 A4.out).mono ?_); (case side1 => repeat (first | exact HR0.out | (with_reducible refine Kd.C_alloc ?_ _) | (with_reducible refine Kd.C_drewN ?_ _) | (with_reducible refine Kd.C_drew ?_))); (case side2 => exact HC0.out); rintro e w29 ⟨rfl, hb⟩; refine ⟨_, rfl, ?_⟩; replace HB := Aside0.mk (below_step zB hb); (try clear hb); (try clear hb2); (try clear hk); (try clear hi)))
  go_ret2
  exact ⟨Z2, Z0⟩
def stringslite_Index.f (a0 : ByteArray) (a1 : ByteArray) : Option (Int) := if a1.size = 1 then some (Lib.indexByte a0.data.toList (a1.get! 0)) else none
set_option maxHeartbeats 4000000 in
set_option maxRecDepth 100000 in
theorem stringslite_Index.calls {a0 : ByteArray} {a1 : ByteArray} {r : Int} {w : World} (h : stringslite_Index.f a0 a1 = some r) :
  Calls Try.prog 87 #[.string a0, .string a1] w fun e w' => e = .returned (.int .i64 r) ∧ Drawn0 w w' := by
 unfold stringslite_Index.f at h
 by_cases c1 : a1.size = 1
 ·rw [if_pos c1] at h
  obtain rfl := Option.some.inj h
  clear h
  obtain ⟨⟨b, rfl⟩⟩ : Nonempty {b : UInt8 // a1 = ⟨#[b]⟩} := by
   obtain ⟨⟨l⟩⟩ := a1
   match l, c1 with
   | [b], _ => exact ⟨b, rfl⟩
  clear c1
  go_enter Try.func87, Try.ntmps87
  go_wp2_with (go_at_call 101; refine (stringslite_IndexByte.calls rfl).mono ?_; rintro e w' ⟨rfl, ⟨nd, rfl⟩⟩)
  ·have h : ([b] == a0.toList) = true := by assumption
   go_ret
   refine ⟨?_, Drawn0.refl _⟩
   have e : a0.data.toList = [b] := by rw [← Lib.toList_data]; exact (beq_iff_eq.1 h).symm
   rw [e]
   simp [Lib.indexByte, ByteArray.get!]
  ·go_ret
   exact ⟨rfl, Z4⟩
 ·rw [if_neg c1] at h
  exact absurd h Z61
def strings_Index.f (a0 : ByteArray) (a1 : ByteArray) : Option (Int) := (stringslite_Index.f a0 a1).bind fun t444 => (some t444)
set_option maxHeartbeats 8000000 in
set_option maxRecDepth 100000 in
theorem strings_Index.calls {a0 : ByteArray} {a1 : ByteArray} {r : Int} {w : World} (h : strings_Index.f a0 a1 = some r) :
  Calls Try.prog 63 #[.string a0, .string a1] w fun e w' => e = .returned (.int .i64 r) ∧ Drawn0 w w' := by
 have H : ((stringslite_Index.f a0 a1).bind fun t444 => (some t444)) = some r := h
 clear h
 replace H := bS H
 obtain ⟨t444, A3, H⟩ := H
 try dsimp only at H
 obtain rfl := Option.some.inj H
 go_enter Try.func63, Try.ntmps63
 go_wp2_with (first | (refine gR (some 7) Try.func87 (stringslite_Index.calls A3.out) (h := ?_); rintro _ ⟨nd, rfl⟩))
 go_ret
 exact ⟨Z1, Z4⟩
def strings_Contains.f (a0 : ByteArray) (a1 : ByteArray) : Option (Bool) := (strings_Index.f a0 a1).bind fun t445 => (some (decide (t445 ≥ 0)))
set_option maxHeartbeats 8000000 in
set_option maxRecDepth 100000 in
theorem strings_Contains.calls {a0 : ByteArray} {a1 : ByteArray} {r : Bool} {w : World} (h : strings_Contains.f a0 a1 = some r) :
  Calls Try.prog 36 #[.string a0, .string a1] w fun e w' => e = .returned (.bool r) ∧ Drawn0 w w' := by
 have H : ((strings_Index.f a0 a1).bind fun t445 => (some (decide (t445 ≥ 0)))) = some r := h
 clear h
 replace H := bS H
 obtain ⟨t445, A3, H⟩ := H
 try dsimp only at H
 obtain rfl := Option.some.inj H
 go_enter Try.func36, Try.ntmps36
 go_wp2_with (first | (refine gR (some 7) Try.func63 (strings_Index.calls A3.out) (h := ?_); rintro _ ⟨nd, rfl⟩))
 go_ret
 exact ⟨Z1, Z4⟩
def goscan_Insert.endf (k : Nat) (semi : Int) (l : List S36) (o : Bool) : Option (List S36) := if o = true then (if 0 < l.length then (if l.length < 5864062014805 then ((goscan_Follows.f k (rd_T36 l ((l.length : Int) - 1)).f0).bind fun b => (if b = true then some (l ++ [⟨semi, (rd_T36 l ((l.length : Int) - 1)).f2, (rd_T36 l ((l.length : Int) - 1)).f2⟩]) else some l)) else none) else none) else some l
theorem goscan_Insert.endf_mono (k : Nat) (semi : Int) (l : List S36) (o : Bool) : LeO (goscan_Insert.endf k semi l o) (goscan_Insert.endf (k + 1) semi l o) := by
 unfold goscan_Insert.endf
 have m0 := @goscan_Follows.mono
 exact mO
def goscan_Insert.St (W w0 : World) (bs bo bp : Nat) (semi : Int) (v : Value) (l : List S36) (o : Bool) : Prop :=
 W.heap[bs]? = some (.cells #[.int .i64 semi] 3 (0, 0)) ∧ W.heap[bo]? = some (.cells #[v] 22 (0, 0)) ∧ W.heap[bp]? = some (.cells #[.bool o] 4 (0, 0)) ∧ Kd.R k36 36 W w0.heap.size (fun _ => True) v l ∧ Below w0.heap.size w0 W
theorem goscan_Insert.St.below {W w0 W1 : World} {bs bo bp : Nat} {semi : Int} {v : Value} {l : List S36} {o : Bool} (h : goscan_Insert.St W w0 bs bo bp semi v l o) (hb : Below W.heap.size W W1) : goscan_Insert.St W1 w0 bs bo bp semi v l o :=
 ⟨blk_below h.1 hb, blk_below h.2.1 hb, blk_below h.2.2.1 hb, Kd.R_below h.2.2.2.1 hb, h.2.2.2.2.trans (hb.mono h.2.2.2.2.size)⟩
theorem goscan_Insert.St.out {W w0 : World} {bs bo bp : Nat} {semi : Int} {v v' : Value} {l l' : List S36} {o : Bool} {W1 : World} (h : goscan_Insert.St W w0 bs bo bp semi v l o) (hR : Kd.R k36 36 W1 w0.heap.size (fun _ => True) v' l') (hb : Below w0.heap.size w0 W1) (hg : W.grownBy W1 v.ownBlock) (hge : w0.heap.size ≤ bo) : goscan_Insert.St (W1.setCell ⟨bo, 0, none⟩ v') w0 bs bo bp semi v' l' o := by
 have e1 := blk_grown h.1 hg (Kd.R_ne h.2.2.2.1 h.1 Z43)
 have e2 := blk_grown h.2.1 hg (Kd.R_ne h.2.2.2.1 h.2.1 Z43)
 have e3 := blk_grown h.2.2.1 hg (Kd.R_ne h.2.2.2.1 h.2.2.1 Z43)
 refine ⟨blk_far e1 (blk_ne e1 e2 Z43) _, blk_set e2 0 v', blk_far e3 (blk_ne e3 e2 Z43) _, Kd.R_set hR e2 Z43 0 v', hb.setCell hge _⟩
theorem goscan_Insert.St.flag {W w0 : World} {bs bo bp : Nat} {semi : Int} {v : Value} {l : List S36} {o : Bool} (h : goscan_Insert.St W w0 bs bo bp semi v l o) (hge : w0.heap.size ≤ bp) (o' : Bool) : goscan_Insert.St (W.setCell ⟨bp, 0, none⟩ (.bool o')) w0 bs bo bp semi v l o' :=
 ⟨blk_far h.1 (blk_ne h.1 h.2.2.1 Z43) _, blk_far h.2.1 (blk_ne h.2.1 h.2.2.1 Z43) _, blk_set h.2.2.1 0 _, Kd.R_set h.2.2.2.1 h.2.2.1 Z43 0 _, h.2.2.2.2.setCell hge _⟩
set_option maxHeartbeats 8000000 in
set_option maxRecDepth 100000 in
theorem goscan_Insert.ends (k : Nat) (w0 W : World) (bs bo bp : Nat) (semi : Int) (v : Value) (l l' : List S36) (o : Bool) (hS : goscan_Insert.St W w0 bs bo bp semi v l o) (hgo : w0.heap.size ≤ bo) (hgp : w0.heap.size ≤ bp) (h : goscan_Insert.endf k semi l o = some l') :
  Calls Try.prog 35 #[.pointer (some ⟨bp, 0, none⟩), .pointer (some ⟨bo, 0, none⟩), .pointer (some ⟨bs, 0, none⟩)] W fun e W' => ∃ v', e = .returned (.tuple #[]) ∧ goscan_Insert.St W' w0 bs bo bp semi v' l' false := by
 have HS := Aside0.mk hS
 clear hS
 have cp := (blk_cell HS.out.2.2.1 0).trans rfl
 have fp := blk_frozen HS.out.2.2.1 0
 unfold goscan_Insert.endf at h
 cases o with
 | false =>
  rw [if_neg Z43] at h
  obtain rfl := Option.some.inj h
  clear h
  go_enter Try.func35, Try.ntmps35
  go_wp2
  go_end0
  exact ⟨v, rfl, HS.out.flag hgp false⟩
 | true =>
  rw [if_pos rfl] at h
  by_cases c1 : 0 < l.length
  ·rw [if_pos c1] at h
   by_cases c2 : l.length < 5864062014805
   ·rw [if_pos c2] at h
    obtain ⟨b, A1, h⟩ := Option.bind_eq_some_iff.mp h
    replace A1 := Aside0.mk A1
    obtain ⟨A, c, rfl⟩ := Kd.R_slice HS.out.2.2.2.1
    have co := (blk_cell HS.out.2.1 0).trans rfl
    have fo := blk_frozen HS.out.2.1 0
    have cs := (blk_cell HS.out.1 0).trans rfl
    obtain ⟨ad, e0, h0, h1, h2⟩ := at_T36 (Kd.R_reads' HS.out.2.2.2.1).2.2 ((l.length : Int) - 1) Z57 Z57
    obtain rfl := e0
    rw [show ((l.length : Int) - 1).toNat = l.length - 1 from by omega] at h0 h1 h2
    have p1 : 0 ≤ (l.length : Int) - 1 := by omega
    have p2 : (l.length : Int) - 1 < (l.length : Int) := by omega
    have w1 : wrap64 ((l.length : Int) - 1) = (l.length : Int) - 1 := by unfold wrap64; omega
    have w2 : IntKind.i64.wrap ((l.length : Int) - 1) = (l.length : Int) - 1 := by rw [i64_w]; exact w1
    have LM := Aside0.mk c2
    clear c2
    cases b with
    | false =>
     rw [if_neg Z43] at h
     obtain rfl := Option.some.inj h
     clear h
     go_enter Try.func35, Try.ntmps35
     go_wp2_with (go_at_call 17; refine (goscan_Follows.calls A1.out).mono ?_; rintro e w3 ⟨rfl, hb⟩; have HS3 := Aside0.mk (HS.out.below hb); have fp3 := blk_frozen HS3.out.2.2.1 0; have cp3 := (blk_cell HS3.out.2.2.1 0).trans rfl)
     go_end0
     exact ⟨_, rfl, HS3.out.flag hgp false⟩
    | true =>
     rw [if_pos rfl] at h
     obtain rfl := Option.some.inj h
     clear h
     obtain ⟨q, hq⟩ : ∃ q : Int, (rd_T36 l ((l.length : Int) - 1)).f2 = q := ⟨_, rfl⟩
     rw [hq] at h2 ⊢
     clear hq
     go_enter Try.func35, Try.ntmps35
     go_wp2_with (first
      | (go_at_call 17; refine (goscan_Follows.calls A1.out).mono ?_; rintro e w3 ⟨rfl, hb⟩; have HS3 := Aside0.mk (HS.out.below hb); have fp3 := blk_frozen HS3.out.2.2.1 0; have cp3 := (blk_cell HS3.out.2.2.1 0).trans rfl; have co3 := (blk_cell HS3.out.2.1 0).trans rfl; have fo3 := blk_frozen HS3.out.2.1 0; have cs3 := (blk_cell HS3.out.1 0).trans rfl; have h23 := (hb.cell (World.block_lt_of_cell? W _ h2)).trans h2)
      | ((with_reducible refine gate_builtin (b := .append) (xs := #[.tmp 22, .tmp 27]) rfl ?_); at_builtin; refine Kd.R_append k36 (w0 := w0) w0.heap.size rfl (.tmp 22) (.tmp 27) 22 36 (.agg #[(.int .i64 0), (.int .i64 0), (.int .i64 0)]) 24 rfl Try.underlying22 info36 rfl Z43 Z57 (.slice (some ad) l.length c) l (⟨semi, q, q⟩ : S36) [.int .i64 semi, .int .i64 q, .int .i64 q] (fun _ => True) (fun _ => False) rfl rfl (k36_mkM _ _ _ (⟨semi, q, q⟩ : S36)) (fun _ hk => hk.elim) (fun _ _ => trivial) HS3.out.2.2.2.1 HS3.out.2.2.2.2 HS3.out.2.2.2.2.size (by have := LM.out; omega) ?_; intro v1 w4 ho hb hg hat; obtain ⟨A4, c4, rfl⟩ := Kd.R_slice ho; have HS4 := Aside0.mk (HS3.out.out ho hb hg hgo); have co4 := (blk_cell (blk_grown HS3.out.2.1 hg (Kd.R_ne HS3.out.2.2.2.1 HS3.out.2.1 Z43)) 0).trans rfl; have fo4 := blk_frozen (blk_grown HS3.out.2.1 hg (Kd.R_ne HS3.out.2.2.2.1 HS3.out.2.1 Z43)) 0; have e3 := blk_grown HS3.out.2.2.1 hg (Kd.R_ne HS3.out.2.2.2.1 HS3.out.2.2.1 Z43); have cp5 := (blk_cell e3 0).trans rfl; have fp5 := blk_frozen e3 0; have hn1 := blk_ne HS3.out.2.1 HS3.out.2.2.1 Z43; have hn2 := blk_ne HS3.out.2.2.1 HS3.out.2.1 Z43; clear ho hb hg hat e3))
     go_end0
     have hz := HS4.out.flag hgp false
     rw [List.length_append] at hz
     exact ⟨_, rfl, hz⟩
   ·rw [if_neg c2] at h
    cases h
  ·rw [if_neg c1] at h
   cases h
def goscan_Insert.loop (k : Nat) (n semi : Int) (a0 : ByteArray) : List S36 → List S36 × Bool → Option (List S36 × Bool)
 | [], s => some s
 | t :: l, s => if t.f0 < n then (if s.1.length < 5864062014805 then goscan_Insert.loop k n semi a0 l (s.1 ++ [t], true) else none) else (if t.f0 = n then ((goscan_Insert.endf k semi s.1 s.2).bind fun o => goscan_Insert.loop k n semi a0 l (o, false)) else (if t.f0 = wrap64 (n + 2) then (if 0 ≤ t.f1 then (if t.f1 ≤ t.f2 then (if t.f2 ≤ (a0.size : Int) then ((strings_Contains.f (a0.extract t.f1.toNat t.f2.toNat) ⟨#[10]⟩).bind fun b => (if b = true then ((goscan_Insert.endf k semi s.1 s.2).bind fun o => goscan_Insert.loop k n semi a0 l (o, false)) else goscan_Insert.loop k n semi a0 l s)) else none) else none) else none) else goscan_Insert.loop k n semi a0 l s))
theorem goscan_Insert.loop_mono (k : Nat) (n semi : Int) (a0 : ByteArray) : ∀ (l : List S36) (s : List S36 × Bool), LeO (goscan_Insert.loop k n semi a0 l s) (goscan_Insert.loop (k + 1) n semi a0 l s)
 | [], s => LeO.refl _
 | t :: l, s => by
  unfold goscan_Insert.loop
  have ih := goscan_Insert.loop_mono k n semi a0 l
  repeat' first
   | exact ih _
   | exact goscan_Insert.endf_mono _ _ _ _
   | exact LeO.refl _
   | exact LeO.none _
   | refine LeO.ite ?_ ?_
   | refine LeO.bind ?_ (fun _ => ?_)
def goscan_Insert.f (k : Nat) (a0 : ByteArray) (l1 : List S36) : Option (List (S36) × Int) := (goscan_Kinds.f k).bind fun ks => ((token_Check.f k ks a0 l1).bind fun bc => (if bc.2 = 0 then ((goscan_kindNewline.f k).bind fun n => ((goscan_Kind.f k ⟨#[59]⟩).bind fun bs => ((goscan_Insert.loop k n bs.1 a0 l1 ([], false)).bind fun s => ((goscan_Insert.endf k bs.1 s.1 s.2).bind fun o => (if 65536 < (o.length : Int) then some ([], 71) else some (o, 0)))))) else some ([], 71)))
theorem goscan_Insert.mono : ∀ a0 a1 k, LeO (goscan_Insert.f k a0 a1) (goscan_Insert.f (k + 1) a0 a1) := by
 intro a0 a1 k
 unfold goscan_Insert.f
 repeat' first
   | exact goscan_Kinds.mono _
   | exact token_Check.mono _ _ _ _
   | exact goscan_kindNewline.mono _
   | exact goscan_Kind.mono _ _
   | exact goscan_Insert.loop_mono _ _ _ _ _ _
   | exact goscan_Insert.endf_mono _ _ _ _
   | exact LeO.refl _
   | exact LeO.none _
   | refine LeO.ite ?_ ?_
   | refine LeO.bind ?_ (fun _ => ?_)
set_option maxHeartbeats 8000000 in
set_option maxRecDepth 100000 in
theorem goscan_Insert.calls (k : Nat) (a0 : ByteArray) (A1 : Option Addr) (c1 : Nat) (l1 : List (S36)) (r1 : List (S36)) (r2 : Int) (w : World) (hr1 : Kd.C k36 w A1 l1.length l1) (hc1 : l1.length ≤ c1) (h : goscan_Insert.f k a0 l1 = some (r1, r2)) :
  Calls Try.prog 13 #[.string a0, .slice A1 l1.length c1] w fun e w' => ∃ v0_ : Value, e = .returned (.tuple #[v0_, .int .i64 r2]) ∧ Kd.R k36 36 w' w.heap.size (fun _ => True) v0_ r1 ∧ Below w.heap.size w w' := by
 have HR1 := Aside0.mk hr1
 have HC1 := Aside0.mk hc1
 clear hr1 hc1
 unfold goscan_Insert.f at h
 obtain ⟨ks, Q1, h⟩ := Option.bind_eq_some_iff.mp h
 obtain ⟨⟨b1, b2⟩, Q2, h⟩ := Option.bind_eq_some_iff.mp h
 replace Q1 := Aside0.mk Q1
 replace Q2 := Aside0.mk Q2
 dsimp only at h
 by_cases c2 : b2 = 0
 ·rw [if_pos c2] at h
  subst c2
  obtain ⟨n, Q3, h⟩ := Option.bind_eq_some_iff.mp h
  obtain ⟨⟨semi, b4⟩, Q4, h⟩ := Option.bind_eq_some_iff.mp h
  obtain ⟨⟨s1, s2⟩, Q5, h⟩ := Option.bind_eq_some_iff.mp h
  obtain ⟨o, Q6, h⟩ := Option.bind_eq_some_iff.mp h
  replace Q3 := Aside0.mk Q3
  replace Q4 := Aside0.mk Q4
  replace Q5 := Aside0.mk Q5
  replace Q6 := Aside0.mk Q6
  have HFIN := Aside0.mk h
  clear h
  go_enter Try.func13, Try.ntmps13
  go_upto_region 9 with (first
   | (go_at_call 26; refine (goscan_Kinds.calls Q1.out).mono ?_; rintro e W1 ⟨v1, rfl, hv1, hb⟩; have B1 := Aside0.mk hb; have V1 := Aside0.mk hv1; obtain ⟨Ak, ck, rfl⟩ := Kd.R_slice V1.out; clear hv1 hb)
   | (go_at_call 33; refine (token_Check.calls k _ _ ks a0 _ _ l1 _ _ _ (Kd.R_reads' V1.out).2.2 (Kd.R_reads' V1.out).2.1 (Kd.C_below HR1.out B1.out) HC1.out Q2.out).mono ?_; rintro e W2 ⟨rfl, hb⟩; have B2 := Aside0.mk (B1.out.trans (hb.mono B1.out.size)); clear hb)
   | (go_at_call 34; refine (goscan_kindNewline.calls Q3.out).mono ?_; rintro e W3 ⟨rfl, hb⟩; have B3 := Aside0.mk (B2.out.trans (hb.mono B2.out.size)); clear hb)
   | (go_at_call 21; refine (goscan_Kind.calls Q4.out).mono ?_; rintro e W4 ⟨rfl, hb⟩; have B4 := Aside0.mk (B3.out.trans (hb.mono B3.out.size)); clear hb; have hmf : ∀ (fn : Fn) (first cap : Array Value) (w : World), (Instr.makeFunc fn first cap).run Try.prog w = .ok (.func fn first cap) w := fun _ _ _ _ => rfl))
  have hS : goscan_Insert.St (((W4.alloc (.cells #[.int .i64 semi] 3)).alloc (.cells #[.slice none 0 0] 22)).alloc (.cells #[.bool false] 4)) w W4.heap.size (W4.heap.size + 1) (W4.heap.size + 1 + 1) semi (.slice none 0 0) [] false := by
   have e1 := blk_new (W4.alloc (.cells #[.int .i64 semi] 3)) (.cells #[.slice none 0 0] 22)
   have e2 := blk_new ((W4.alloc (.cells #[.int .i64 semi] 3)).alloc (.cells #[.slice none 0 0] 22)) (.cells #[.bool false] 4)
   rw [szAlloc] at e1
   rw [szAlloc, szAlloc] at e2
   exact ⟨blk_alloc (blk_alloc (blk_new W4 _) _) _, blk_alloc e1 _, e2, Kd.R_nil _ _ _ _ _, below_alloc (below_alloc (below_alloc B4.out _) _) _⟩
  have hgo : w.heap.size ≤ W4.heap.size + 1 := Nat.le_trans B4.out.size Z57
  have hgp : w.heap.size ≤ W4.heap.size + 1 + 1 := Nat.le_trans B4.out.size Z57
  generalize ((W4.alloc (.cells #[.int .i64 semi] 3)).alloc (.cells #[.slice none 0 0] 22)).alloc (.cells #[.bool false] 4) = W5 at hS ⊢
  generalize W4.heap.size + 1 + 1 = bp at hS hgp ⊢
  generalize W4.heap.size + 1 = bo at hS hgo ⊢
  generalize W4.heap.size = bs at hS ⊢
  have HS5 := Aside0.mk hS
  clear hS
  go_wp2
  go_loopw [33] (fun i wr => ∃ (x : Int) (v : Value) (l : List S36) (o : Bool), 0 ≤ x ∧ x ≤ (l1.length : Int) ∧ i = .int .i64 x ∧ Aside0 (goscan_Insert.St wr w bs bo bp semi v l o) ∧ Aside0 (goscan_Insert.loop k n semi a0 (l1.drop x.toNat) (l, o) = some (s1, s2))) (fun i _ => l1.length - (intOf i).toNat)
  case atStart => exact ⟨0, _, _, _, Z57, Z57, rfl, HS5, Q5⟩
  case round =>
   clear HS5 Q5
   obtain ⟨x, v, l, so, hx0, hx1, rfl, HS, HL⟩ := hrel
   by_cases hlt : x < (l1.length : Int)
   ·obtain ⟨A, c, rfl⟩ := Kd.R_slice HS.out.2.2.2.1
    obtain ⟨ad, e0, h0, h1, h2⟩ := at_T36 (Kd.C_below HR1.out HS.out.2.2.2.2) x hx0 hlt
    obtain rfl := e0
    have hd : l1.drop x.toNat = rd_T36 l1 x :: l1.drop (x + 1).toNat := by
     have hl : x.toNat < l1.length := by omega
     rw [List.drop_eq_getElem_cons hl, show (x + 1).toNat = x.toNat + 1 from by omega]
     congr 1
     unfold rd_T36
     rw [List.getD_eq_getElem?_getD, List.getElem?_eq_getElem hl]
     rfl
    have hl := HL.out
    clear HL
    rw [hd] at hl
    clear hd
    obtain ⟨⟨t0, t1, t2⟩, ht⟩ : ∃ t, rd_T36 l1 x = t := ⟨_, rfl⟩
    rw [ht] at hl h0 h1 h2
    clear ht
    unfold goscan_Insert.loop at hl
    dsimp only at hl h0 h1 h2
    have hw : wrap64 (x + 1) = x + 1 := by unfold wrap64; have := HR1.out.2.1; omega
    have hw := Aside0.mk hw
    have hlb : decide (x < (l1.length : Int)) = true := decide_eq_true hlt
    have HX := Aside0.mk (HS.out.below ((Below.refl wr.heap.size wr).alloc (Nat.le_refl _) (.cells #[.int .i64 t0, .int .i64 t1, .int .i64 t2] 36)))
    have BT := Aside0.mk (blk_new wr (.cells #[.int .i64 t0, .int .i64 t1, .int .i64 t2] 36))
    go_upto_region 12 with (fail)
    generalize wr.alloc (.cells #[.int .i64 t0, .int .i64 t1, .int .i64 t2] 36) = wx at HX BT ⊢
    generalize wr.heap.size = g at BT ⊢
    have ct0 := (blk_cell BT.out 0).trans rfl
    have ct1 := (blk_cell BT.out 1).trans rfl
    have ct2 := (blk_cell BT.out 2).trans rfl
    clear HS h0 h1 h2
    by_cases d1 : t0 < n
    ·rw [if_pos d1] at hl
     have d1b : decide (t0 < n) = true := decide_eq_true d1
     clear d1
     by_cases d2 : l.length < 5864062014805
     ·rw [if_pos d2] at hl
      have hl := Aside0.mk hl
      have LM := Aside0.mk d2
      clear d2
      have co := (blk_cell HX.out.2.1 0).trans rfl
      have fo := blk_frozen HX.out.2.1 0
      go_wp2_with ((with_reducible refine gate_builtin (b := .append) (xs := #[.tmp 42, .tmp 44]) rfl ?_); at_builtin; refine Kd.R_append k36 (w0 := w) w.heap.size rfl (.tmp 42) (.tmp 44) 22 36 (.agg #[(.int .i64 0), (.int .i64 0), (.int .i64 0)]) 24 rfl Try.underlying22 info36 rfl Z43 Z57 (.slice A l.length c) l (⟨t0, t1, t2⟩ : S36) [.int .i64 t0, .int .i64 t1, .int .i64 t2] (fun _ => True) (fun _ => False) rfl rfl (k36_mkM _ _ _ (⟨t0, t1, t2⟩ : S36)) (fun _ hk => hk.elim) (fun _ _ => trivial) HX.out.2.2.2.1 HX.out.2.2.2.2 HX.out.2.2.2.2.size (by have := LM.out; omega) ?_; intro v1 w4 ho hb hg hat; obtain ⟨A4, c4, rfl⟩ := Kd.R_slice ho; have HS4 := Aside0.mk ((HX.out.out ho hb hg hgo).flag hgp true); have co4 := (blk_cell (blk_grown HX.out.2.1 hg (Kd.R_ne HX.out.2.2.2.1 HX.out.2.1 Z43)) 0).trans rfl; have fo4 := blk_frozen (blk_grown HX.out.2.1 hg (Kd.R_ne HX.out.2.2.2.1 HX.out.2.1 Z43)) 0; have e3 := blk_grown HX.out.2.2.1 hg (Kd.R_ne HX.out.2.2.2.1 HX.out.2.2.1 Z43); have cp5 := (blk_cell e3 0).trans rfl; have fp5 := blk_frozen e3 0; have hn1 := blk_ne HX.out.2.1 HX.out.2.2.1 Z43; have hn2 := blk_ne HX.out.2.2.1 HX.out.2.1 Z43; clear ho hb hg hat e3)
      rw [List.length_append] at HS4
      go_roundw
      case rel => exact ⟨x + 1, _, _, _, Z57, Z57, by rw [hw.out], HS4, hl⟩
      case measure => simp [intOf]; omega
     ·rw [if_neg d2] at hl
      cases hl
    ·rw [if_neg d1] at hl
     have d1b : decide (t0 < n) = false := decide_eq_false d1
     clear d1
     by_cases d2 : t0 = n
     ·rw [if_pos d2] at hl
      have d2b : (t0 == n) = true := beq_iff_eq.mpr d2
      clear d2
      obtain ⟨l2, E1, hl⟩ := Option.bind_eq_some_iff.mp hl
      replace E1 := Aside0.mk E1
      replace hl := Aside0.mk hl
      go_wp2_with (go_at_call 35; refine (goscan_Insert.ends k w _ bs bo bp semi _ l l2 so HX.out hgo hgp E1.out).mono ?_; rintro e w7 ⟨v7, rfl, hs7⟩; have HS7 := Aside0.mk hs7; clear hs7)
      go_roundw
      case rel => exact ⟨x + 1, _, _, _, Z57, Z57, by rw [hw.out], HS7, hl⟩
      case measure => simp [intOf]; omega
     ·rw [if_neg d2] at hl
      have d2b : (t0 == n) = false := beq_eq_false_iff_ne.mpr d2
      clear d2
      by_cases d3 : t0 = wrap64 (n + 2)
      ·rw [if_pos d3] at hl
       have d3b : (t0 == wrap64 (n + 2)) = true := beq_iff_eq.mpr d3
       clear d3
       by_cases d4 : 0 ≤ t1
       ·rw [if_pos d4] at hl
        by_cases d5 : t1 ≤ t2
        ·rw [if_pos d5] at hl
         by_cases d6 : t2 ≤ (a0.size : Int)
         ·rw [if_pos d6] at hl
          obtain ⟨b, E0, hl⟩ := Option.bind_eq_some_iff.mp hl
          replace E0 := Aside0.mk E0
          cases b with
          | true =>
           rw [if_pos rfl] at hl
           obtain ⟨l2, E1, hl⟩ := Option.bind_eq_some_iff.mp hl
           replace E1 := Aside0.mk E1
           replace hl := Aside0.mk hl
           go_wp2_with (first
            | (go_at_call 36; refine (strings_Contains.calls E0.out).mono ?_; rintro e w6 ⟨rfl, ⟨nd, rfl⟩⟩)
            | (go_at_call 35; refine (goscan_Insert.ends k w _ bs bo bp semi _ l l2 so (HX.out.below (pw_below_drewN (Below.refl _ _) nd)) hgo hgp E1.out).mono ?_; rintro e w7 ⟨v7, rfl, hs7⟩; have HS7 := Aside0.mk hs7; clear hs7))
           go_roundw
           case rel => exact ⟨x + 1, _, _, _, Z57, Z57, by rw [hw.out], HS7, hl⟩
           case measure => simp [intOf]; omega
          | false =>
           rw [if_neg Z43] at hl
           replace hl := Aside0.mk hl
           go_wp2_with (go_at_call 36; refine (strings_Contains.calls E0.out).mono ?_; rintro e w6 ⟨rfl, ⟨nd, rfl⟩⟩)
           go_roundw
           case rel => exact ⟨x + 1, _, _, _, Z57, Z57, by rw [hw.out], ⟨HX.out.below (pw_below_drewN (Below.refl _ _) nd)⟩, hl⟩
           case measure => simp [intOf]; omega
         ·rw [if_neg d6] at hl
          cases hl
        ·rw [if_neg d5] at hl
         cases hl
       ·rw [if_neg d4] at hl
        cases hl
      ·rw [if_neg d3] at hl
       have d3b : (t0 == wrap64 (n + 2)) = false := beq_eq_false_iff_ne.mpr d3
       clear d3
       replace hl := Aside0.mk hl
       go_wp2
       go_roundw
       case rel => exact ⟨x + 1, _, _, _, Z57, Z57, by rw [hw.out], HX, hl⟩
       case measure => simp [intOf]; omega
   ·have hx : l1.drop x.toNat = [] := List.drop_eq_nil_of_le Z57
    have hl := HL.out
    clear HL
    rw [hx] at hl
    clear hx
    unfold goscan_Insert.loop at hl
    obtain ⟨rfl, rfl⟩ := Prod.mk.inj (Option.some.inj hl)
    clear hl
    have hlb : decide (x < (l1.length : Int)) = false := decide_eq_false hlt
    have hh := HFIN.out
    by_cases d1 : 65536 < (o.length : Int)
    ·rw [if_pos d1] at hh
     obtain ⟨rfl, rfl⟩ := Prod.mk.inj (Option.some.inj hh)
     clear hh HFIN
     have d1b : decide (65536 < (o.length : Int)) = true := decide_eq_true d1
     have d1c : decide (65536 < o.length) = true := decide_eq_true Z57
     clear d1
     go_wp2_with (go_at_call 35; refine (goscan_Insert.ends k w _ bs bo bp semi _ l o so HS.out hgo hgp Q6.out).mono ?_; rintro e w7 ⟨v7, rfl, hs7⟩; have HS7 := Aside0.mk hs7; obtain ⟨A7, c7, rfl⟩ := Kd.R_slice HS7.out.2.2.2.1; clear hs7; have co7 := (blk_cell HS7.out.2.1 0).trans rfl)
     go_ret2
     exact ⟨_, rfl, Kd.R_nil _ _ _ _ _, HS7.out.2.2.2.2⟩
    ·rw [if_neg d1] at hh
     obtain ⟨rfl, rfl⟩ := Prod.mk.inj (Option.some.inj hh)
     clear hh HFIN
     have d1b : decide (65536 < (o.length : Int)) = false := decide_eq_false d1
     have d1c : decide (65536 < o.length) = false := decide_eq_false Z57
     clear d1
     go_wp2_with (go_at_call 35; refine (goscan_Insert.ends k w _ bs bo bp semi _ l o so HS.out hgo hgp Q6.out).mono ?_; rintro e w7 ⟨v7, rfl, hs7⟩; have HS7 := Aside0.mk hs7; obtain ⟨A7, c7, rfl⟩ := Kd.R_slice HS7.out.2.2.2.1; clear hs7; have co7 := (blk_cell HS7.out.2.1 0).trans rfl)
     go_ret2
     exact ⟨_, rfl, HS7.out.2.2.2.1, HS7.out.2.2.2.2⟩
 ·rw [if_neg c2] at h
  obtain ⟨rfl, rfl⟩ := Prod.mk.inj (Option.some.inj h)
  clear h
  have d2 : (b2 != 0) = true := bne_iff_ne.mpr c2
  clear c2
  go_enter Try.func13, Try.ntmps13
  go_wp2_with (first
   | (go_at_call 26; refine (goscan_Kinds.calls Q1.out).mono ?_; rintro e W1 ⟨v1, rfl, hv1, hb⟩; have B1 := Aside0.mk hb; have V1 := Aside0.mk hv1; obtain ⟨Ak, ck, rfl⟩ := Kd.R_slice V1.out; clear hv1 hb)
   | (go_at_call 33; refine (token_Check.calls k _ _ ks a0 _ _ l1 _ _ _ (Kd.R_reads' V1.out).2.2 (Kd.R_reads' V1.out).2.1 (Kd.C_below HR1.out B1.out) HC1.out Q2.out).mono ?_; rintro e W2 ⟨rfl, hb⟩; have B2 := Aside0.mk (B1.out.trans (hb.mono B1.out.size)); clear hb))
  go_ret2
  exact ⟨_, rfl, Kd.R_nil _ _ _ _ _, B2.out⟩
section
attribute [local go_sem high] eqA25
def goscan_All.f (k : Nat) (a0 : ByteArray) : Option ((List (S36)) × Int × Int) := (goscan_Raw.f k a0).bind fun bt447 => (if (!(bt447.2.1 == 0) || (!(bt447.2.2 == 0))) = true then (some (([] : List (S36)), bt447.2.1, bt447.2.2)) else ((goscan_Insert.f k a0 bt447.1).bind fun bt453 => (if bt453.2 = 0 then (some (bt453.1, bt447.2.1, bt447.2.2)) else (some (([] : List (S36)), 3, (a0.size : Int))))))
theorem goscan_All.mono : ∀ a0 k, LeO (goscan_All.f k a0) (goscan_All.f (k + 1) a0) := by
 intro a0 k
 unfold goscan_All.f
 have m0 := @goscan_Insert.mono
 have m1 := @goscan_Raw.mono
 exact mO
set_option maxHeartbeats 8000000 in
set_option maxRecDepth 100000 in
theorem goscan_All.calls {k : Nat} {a0 : ByteArray} {r1 : List (S36)} {r2 : Int} {r3 : Int} {w : World} (h : goscan_All.f k a0 = some (r1, r2, r3)) :
  Calls Try.prog 15 #[.string a0] w fun e w' => ∃ v0_ : Value, e = .returned (.tuple #[v0_, .agg #[.int .i64 r2, .int .i64 r3]]) ∧ Kd.R k36 36 w' w.heap.size (fun _ => True) v0_ r1 ∧ Below w.heap.size w w' := by
 have hu25 := Try.underlying25
 have HB := Aside0.mk (Below.refl w.heap.size w)
 have H : ((goscan_Raw.f k a0).bind fun bt447 => (if (!(bt447.2.1 == 0) || (!(bt447.2.2 == 0))) = true then (some (([] : List (S36)), bt447.2.1, bt447.2.2)) else ((goscan_Insert.f k a0 bt447.1).bind fun bt453 => (if bt453.2 = 0 then (some (bt453.1, bt447.2.1, bt447.2.2)) else (some (([] : List (S36)), 3, (a0.size : Int))))))) = some (r1, r2, r3) := h
 clear h
 replace H := bS H
 obtain ⟨⟨t447, t450, t451⟩, A2, H⟩ := H
 try dsimp only at H
 by_cases c3 : (!(t450 == 0) || (!(t451 == 0))) = true
 ·rw [if_pos c3] at H
  have c3b0 : (!(t450 == 0) || (!(t451 == 0))) = true := c3
  clear c3
  simp only [Option.some.injEq, Prod.mk.injEq] at H
  obtain ⟨rfl, rfl, rfl⟩ := H
  go_enter Try.func15, Try.ntmps15
  try go_wp2_with (first | ((with_reducible refine gate_dst (N := 3) rfl ?_); refine box_event ?hg (N := 3) ?hd (cs := #[.int .i64 0, .int .i64 0]) (t := 25) ?hr ?_; (case hd => rfl); (case hg => rfl); (case hr => first | (go_simp; done) | (go_simp; rfl)); intro gb446 hg w4 hbox hb; have BK446 := Aside0.mk (hbox); have GW446 := gE hg zB; have GE446 := gE hg zB; replace HB := Aside0.mk (below_step zB hb); clear hb hbox hg) | (refine gQ (some 10) Try.func9 (goscan_Raw.calls A2.out) (h := ?_); rintro v448 w5 ⟨ho0, hb⟩; have HO449 := Aside0.mk (Kd.R_lower ho0 (below_size zB)); replace BK446 := Aside0.mk (blk_below (g := gb446) (o := .cells #[.int .i64 0, .int .i64 0] 25 (0, 0)) (bK BK446) hb); replace HB := Aside0.mk (below_step zB hb); (try clear hb); (try clear hb2); (try clear hk); (try clear hi); (try clear ho0)) | ((with_reducible refine gate_dst (N := 5) rfl ?_); refine box_event ?hg (N := 5) ?hd (cs := #[.int .i64 0, .int .i64 0]) (t := 25) ?hr ?_; (case hd => rfl); (case hg => rfl); (case hr => first | (go_simp; done) | (go_simp; rfl)); intro gb452 hg w6 hbox hb; have n0_ := Aside0.mk (Kd.R_below (kK HO449) hb); have n1_ := Aside0.mk (blk_below (g := gb446) (o := .cells #[.int .i64 0, .int .i64 0] 25 (0, 0)) (bK BK446) hb); have n2_ := Aside0.mk (below_step zB hb); have n3_ := Aside0.mk (hbox); have n4_ := gE hg zB; have n5_ := gE hg zB; have n6_ := Aside0.mk ((by rw [hg]; exact Nat.ne_of_lt (blk_lt (g := gb446) (o := .cells #[.int .i64 0, .int .i64 0] 25 (0, 0)) (bK BK446)) : gb446 ≠ gb452)); have n7_ := Aside0.mk ((by rw [hg]; exact Nat.ne_of_gt (blk_lt (g := gb446) (o := .cells #[.int .i64 0, .int .i64 0] 25 (0, 0)) (bK BK446)) : gb452 ≠ gb446)); clear HO449; clear BK446; clear HB; have HO449 := n0_; have BK446 := n1_; have HB := n2_; have BK452 := n3_; have GW452 := n4_; have GE452 := n5_; have NB446_452 := n6_; have NB452_446 := n7_; clear n0_ n1_ n2_ n3_ n4_ n5_ n6_ n7_; clear hb hbox hg; have hnb7 := NB452_446.out; have hnc7 := NB446_452.out; have hcz8_0 := bC BK452 0 (.int .i64 0); have hcz8_1 := bC BK452 1 (.int .i64 0); have hfz8_0 := blk_frozen BK452.out 0; have hfz8_1 := blk_frozen BK452.out 1))
  have n0_ : Aside0 (Kd.R k36 36 ((w6.setCell ⟨gb452, 0, none⟩ (.int .i64 t450)).setCell ⟨gb452, 1, none⟩ (.int .i64 t451)) w.heap.size (fun _ => True) v448 t447) := ⟨by (with_reducible repeat (first | apply Kd.R_alloc | apply Kd.R_drewN | apply Kd.R_drew)); exact Kd.R_mono (Kd.R_far (p := ⟨gb452, 1, none⟩) (Kd.R_far (p := ⟨gb452, 0, none⟩) (Kd.R_types HO449.out BK452.out Z43) (fun _ hk => hk.2) (.int .i64 t450)) (fun _ hk => hk.2) (.int .i64 t451)) (fun _ hk => trivial)⟩
  have n1_ : Aside0 (((w6.setCell ⟨gb452, 0, none⟩ (.int .i64 t450)).setCell ⟨gb452, 1, none⟩ (.int .i64 t451)).heap[gb446]? = some (.cells #[.int .i64 0, .int .i64 0] 25 (0, 0))) := ⟨Z46⟩
  have n2_ : Aside0 (((w6.setCell ⟨gb452, 0, none⟩ (.int .i64 t450)).setCell ⟨gb452, 1, none⟩ (.int .i64 t451)).heap[gb452]? = some (.cells #[.int .i64 t450, .int .i64 t451] 25 (0, 0))) := ⟨Z34⟩
  have n3_ : Aside0 (Below w.heap.size w ((w6.setCell ⟨gb452, 0, none⟩ (.int .i64 t450)).setCell ⟨gb452, 1, none⟩ (.int .i64 t451))) := ⟨Z0⟩
  (try clear HO449)
  (try clear BK446)
  (try clear BK452)
  (try clear HB)
  generalize ((w6.setCell ⟨gb452, 0, none⟩ (.int .i64 t450)).setCell ⟨gb452, 1, none⟩ (.int .i64 t451)) = w9 at n0_ n1_ n2_ n3_ ⊢
  have HO449 := n0_
  have BK446 := n1_
  have BK452 := n2_
  have HB := n3_
  clear n0_ n1_ n2_ n3_
  replace HO449 := Aside0.mk (Kd.R_drew HO449.out)
  replace BK446 := Aside0.mk (blk_drew BK446.out)
  replace BK452 := Aside0.mk (blk_drew BK452.out)
  replace HB := Aside0.mk (below_drew1 HB.out)
  refine start_ (n := 3) (S := fun w' => w'.cell? ⟨gb452, 0, none⟩ = some (.int .i64 t450) ∧ w'.cell? ⟨gb452, 1, none⟩ = some (.int .i64 t451)) (ds := []) #[false, false, false] Z5 rfl rfl ⟨(blk_cell BK452.out 0).trans rfl, (blk_cell BK452.out 1).trans rfl⟩ (fun hHeld => ?_)
  generalize w9.drew = w10 at HO449 BK446 BK452 HB hHeld ⊢
  refine pU 1 2 (hc := Z5) (h := ?_)
  refine take_ (i := 0) (N := some 16) (v := ?_) (a' := ?_) #[true, true, false] rfl rfl Z5 (fun _ _ _ h => h) (Or.inl ⟨Z67, ?_⟩) hHeld ?_ ?_
  rotate_left
  ·rintro w' ⟨s0, s1⟩
   go_simp
   with_reducible rfl
  rotate_left
  ·simp only [Act.put, List.setIfInBounds_toArray, List.set_cons_zero, List.set_cons_succ, i64_w, i32_w]
   rfl
  refine oN 2 (none) (hc := Z5) (h := fun K hK => ?_)
  have hs11 := bC BK446 0 (.int .i64 0)
  have hfs11 := blk_frozen BK446.out 0
  have hns11_1 := NB452_446.out
  have hms11_1 := NB446_452.out
  have hs12 := bC BK446 1 (.int .i64 0)
  have hfs12 := blk_frozen BK446.out 1
  have hns12_1 := NB452_446.out
  have hms12_1 := NB446_452.out
  refine skip_ (w1 := ?_) Z67 rfl ?_ ?_
  rotate_left
  ·go_simp
   rfl
  refine hK.out _ _ ⟨((cell_far (p := ⟨gb446, _, none⟩) NB452_446.out _).trans (((cell_far (p := ⟨gb446, _, none⟩) NB452_446.out _).trans (hHeld.1)))), ((cell_far (p := ⟨gb446, _, none⟩) NB452_446.out _).trans (((cell_far (p := ⟨gb446, _, none⟩) NB452_446.out _).trans (hHeld.2))))⟩ (fun hHeld => ?_)
  clear hK K
  refine done_ Z5 ?_
  try go_wp2
  refine bodyPost_ret (results_tc rfl _ _ gb446 25 #[.int .i64 t450, .int .i64 t451] (0, 0) _ rfl (by (with_reducible repeat (first | refine blk_drewN ?_ _ | refine blk_drew ?_ | refine blk_alloc ?_ _)); refine blk_put (cs := #[.int .i64 t450, .int .i64 0]) ?_ 1 _ rfl; (with_reducible repeat (first | refine blk_drewN ?_ _ | refine blk_drew ?_ | refine blk_alloc ?_ _)); refine blk_put (cs := #[.int .i64 0, .int .i64 0]) ?_ 0 _ rfl; (with_reducible repeat (first | refine blk_drewN ?_ _ | refine blk_drew ?_ | refine blk_alloc ?_ _)); exact BK446.out) Try.underlying25 rfl Z5) rfl ?_
  exact ⟨_, Z2, Z10, Z0⟩
 ·rw [if_neg c3] at H
  have c3b0 : (!(t450 == 0) || (!(t451 == 0))) = false := by simpa using c3
  clear c3
  replace H := bS H
  obtain ⟨⟨t453, t454⟩, A13, H⟩ := H
  try dsimp only at H
  by_cases c14 : t454 = 0
  ·rw [if_pos c14] at H
   have c14b0 := e1 c14
   have c14b1 := e2 c14
   clear c14
   simp only [Option.some.injEq, Prod.mk.injEq] at H
   obtain ⟨rfl, rfl, rfl⟩ := H
   go_enter Try.func15, Try.ntmps15
   try go_wp2_with (first | ((with_reducible refine gate_dst (N := 3) rfl ?_); refine box_event ?hg (N := 3) ?hd (cs := #[.int .i64 0, .int .i64 0]) (t := 25) ?hr ?_; (case hd => rfl); (case hg => rfl); (case hr => first | (go_simp; done) | (go_simp; rfl)); intro gb446 hg w15 hbox hb; have BK446 := Aside0.mk (hbox); have GW446 := gE hg zB; have GE446 := gE hg zB; replace HB := Aside0.mk (below_step zB hb); clear hb hbox hg) | (refine gQ (some 10) Try.func9 (goscan_Raw.calls A2.out) (h := ?_); rintro v448 w16 ⟨ho0, hb⟩; have HO449 := Aside0.mk (Kd.R_lower ho0 (below_size zB)); replace BK446 := Aside0.mk (blk_below (g := gb446) (o := .cells #[.int .i64 0, .int .i64 0] 25 (0, 0)) (bK BK446) hb); replace HB := Aside0.mk (below_step zB hb); (try clear hb); (try clear hb2); (try clear hk); (try clear hi); (try clear ho0)) | ((with_reducible refine gate_dst (N := 5) rfl ?_); refine box_event ?hg (N := 5) ?hd (cs := #[.int .i64 0, .int .i64 0]) (t := 25) ?hr ?_; (case hd => rfl); (case hg => rfl); (case hr => first | (go_simp; done) | (go_simp; rfl)); intro gb452 hg w17 hbox hb; have n0_ := Aside0.mk (Kd.R_below (kK HO449) hb); have n1_ := Aside0.mk (blk_below (g := gb446) (o := .cells #[.int .i64 0, .int .i64 0] 25 (0, 0)) (bK BK446) hb); have n2_ := Aside0.mk (below_step zB hb); have n3_ := Aside0.mk (hbox); have n4_ := gE hg zB; have n5_ := gE hg zB; have n6_ := Aside0.mk ((by rw [hg]; exact Nat.ne_of_lt (blk_lt (g := gb446) (o := .cells #[.int .i64 0, .int .i64 0] 25 (0, 0)) (bK BK446)) : gb446 ≠ gb452)); have n7_ := Aside0.mk ((by rw [hg]; exact Nat.ne_of_gt (blk_lt (g := gb446) (o := .cells #[.int .i64 0, .int .i64 0] 25 (0, 0)) (bK BK446)) : gb452 ≠ gb446)); clear HO449; clear BK446; clear HB; have HO449 := n0_; have BK446 := n1_; have HB := n2_; have BK452 := n3_; have GW452 := n4_; have GE452 := n5_; have NB446_452 := n6_; have NB452_446 := n7_; clear n0_ n1_ n2_ n3_ n4_ n5_ n6_ n7_; clear hb hbox hg; have hnb18 := NB452_446.out; have hnc18 := NB446_452.out; have hcz19_0 := bC BK452 0 (.int .i64 0); have hcz19_1 := bC BK452 1 (.int .i64 0); have hfz19_0 := blk_frozen BK452.out 0; have hfz19_1 := blk_frozen BK452.out 1; obtain ⟨Ao20, co20, eo20⟩ := Kd.R_slice HO449.out; subst eo20) | (refine gL (some 20) Try.func13 #[.string a0, .slice Ao20 t447.length co20] (h := ?_); (with_reducible refine (goscan_Insert.calls k a0 _ _ t447 t453 t454 _ ?side1 ?side2 A13.out).mono ?_); (case side1 => refine (Kd.R_reads' (e := 36) (base := w.heap.size) (ok := fun k_ => True) (n := t447.length) (c := co20) ?_).2.2; exact Z19); (case side2 => exact (Kd.R_reads' HO449.out).2.1); rintro e w21 ⟨v455, rfl, ho0, hb⟩; refine ⟨_, rfl, ?_⟩; have n0_ := Aside0.mk (Kd.R_elder' Z19 (Kd.R_base ho0) hb); have n1_ := Aside0.mk (Kd.R_lower (Kd.R_new' ho0 (Kd.R_lt Z19)) (below_size zB)); have n2_ := Aside0.mk (blk_below (g := gb446) (o := .cells #[.int .i64 0, .int .i64 0] 25 (0, 0)) Z46 hb); have n3_ := Aside0.mk (blk_below (g := gb452) (o := .cells #[.int .i64 t450, .int .i64 t451] 25 (0, 0)) Z34 hb); have n4_ := Aside0.mk (below_step zB hb); clear HO449; clear BK446; clear BK452; clear HB; have HO449 := n0_; have HO456 := n1_; have BK446 := n2_; have BK452 := n3_; have HB := n4_; clear n0_ n1_ n2_ n3_ n4_; (try clear hb); (try clear hb2); (try clear hk); (try clear hi); (try clear ho0)))
   replace HO449 := Aside0.mk (Kd.R_drew HO449.out)
   replace HO456 := Aside0.mk (Kd.R_drew HO456.out)
   replace BK446 := Aside0.mk (blk_drew BK446.out)
   replace BK452 := Aside0.mk (blk_drew BK452.out)
   replace HB := Aside0.mk (below_drew1 HB.out)
   refine start_ (n := 4) (S := fun w' => w'.cell? ⟨gb452, 0, none⟩ = some (.int .i64 t450) ∧ w'.cell? ⟨gb452, 1, none⟩ = some (.int .i64 t451)) (ds := []) #[false, false, false, false] Z5 rfl rfl ⟨(blk_cell BK452.out 0).trans rfl, (blk_cell BK452.out 1).trans rfl⟩ (fun hHeld => ?_)
   generalize w21.drew = w22 at HO449 HO456 BK446 BK452 HB hHeld ⊢
   refine pU 0 28 (hc := Z5) (h := ?_)
   refine pU 2 2 (hc := Z5) (h := ?_)
   refine take_ (i := 1) (N := some 29) (v := ?_) (a' := ?_) #[true, true, true, false] rfl rfl Z5 (fun _ _ _ h => h) (Or.inl ⟨Z67, ?_⟩) hHeld ?_ ?_
   rotate_left
   ·rintro w' ⟨s0, s1⟩
    go_simp
    with_reducible rfl
   rotate_left
   ·simp only [Act.put, List.setIfInBounds_toArray, List.set_cons_zero, List.set_cons_succ, i64_w, i32_w]
    rfl
   refine oN 3 (none) (hc := Z5) (h := fun K hK => ?_)
   have hs23 := bC BK446 0 (.int .i64 0)
   have hfs23 := blk_frozen BK446.out 0
   have hns23_1 := NB452_446.out
   have hms23_1 := NB446_452.out
   have hs24 := bC BK446 1 (.int .i64 0)
   have hfs24 := blk_frozen BK446.out 1
   have hns24_1 := NB452_446.out
   have hms24_1 := NB446_452.out
   refine skip_ (w1 := ?_) Z67 rfl ?_ ?_
   rotate_left
   ·go_simp
    rfl
   refine hK.out _ _ ⟨((cell_far (p := ⟨gb446, _, none⟩) NB452_446.out _).trans (((cell_far (p := ⟨gb446, _, none⟩) NB452_446.out _).trans (hHeld.1)))), ((cell_far (p := ⟨gb446, _, none⟩) NB452_446.out _).trans (((cell_far (p := ⟨gb446, _, none⟩) NB452_446.out _).trans (hHeld.2))))⟩ (fun hHeld => ?_)
   clear hK K
   refine done_ Z5 ?_
   try go_wp2
   refine bodyPost_ret (results_tc rfl _ _ gb446 25 #[.int .i64 t450, .int .i64 t451] (0, 0) _ rfl (by (with_reducible repeat (first | refine blk_drewN ?_ _ | refine blk_drew ?_ | refine blk_alloc ?_ _)); refine blk_put (cs := #[.int .i64 t450, .int .i64 0]) ?_ 1 _ rfl; (with_reducible repeat (first | refine blk_drewN ?_ _ | refine blk_drew ?_ | refine blk_alloc ?_ _)); refine blk_put (cs := #[.int .i64 0, .int .i64 0]) ?_ 0 _ rfl; (with_reducible repeat (first | refine blk_drewN ?_ _ | refine blk_drew ?_ | refine blk_alloc ?_ _)); exact BK446.out) Try.underlying25 rfl Z5) rfl ?_
   exact ⟨_, Z2, by (with_reducible repeat (first | apply Kd.R_alloc | apply Kd.R_drewN | apply Kd.R_drew)); exact Kd.R_mono (Kd.R_far (p := ⟨gb446, 1, none⟩) (Kd.R_far (p := ⟨gb446, 0, none⟩) (Kd.R_types HO456.out BK446.out Z43) (fun _ hk => hk.2) (.int .i64 t450)) (fun _ hk => hk.2) (.int .i64 t451)) (fun _ hk => trivial), Z0⟩
  ·rw [if_neg c14] at H
   have c14b0 := e3 c14
   have c14b1 := e4 c14
   simp only [Option.some.injEq, Prod.mk.injEq] at H
   obtain ⟨rfl, rfl, rfl⟩ := H
   go_enter Try.func15, Try.ntmps15
   go_wp2_with (first | ((with_reducible refine gate_dst (N := 3) rfl ?_); refine box_event ?hg (N := 3) ?hd (cs := #[.int .i64 0, .int .i64 0]) (t := 25) ?hr ?_; (case hd => rfl); (case hg => rfl); (case hr => first | (go_simp; done) | (go_simp; rfl)); intro gb446 hg w25 hbox hb; have BK446 := Aside0.mk (hbox); have GW446 := gE hg zB; have GE446 := gE hg zB; replace HB := Aside0.mk (below_step zB hb); clear hb hbox hg) | (refine gQ (some 10) Try.func9 (goscan_Raw.calls A2.out) (h := ?_); rintro v448 w26 ⟨ho0, hb⟩; have HO449 := Aside0.mk (Kd.R_lower ho0 (below_size zB)); replace BK446 := Aside0.mk (blk_below (g := gb446) (o := .cells #[.int .i64 0, .int .i64 0] 25 (0, 0)) (bK BK446) hb); replace HB := Aside0.mk (below_step zB hb); (try clear hb); (try clear hb2); (try clear hk); (try clear hi); (try clear ho0)) | ((with_reducible refine gate_dst (N := 5) rfl ?_); refine box_event ?hg (N := 5) ?hd (cs := #[.int .i64 0, .int .i64 0]) (t := 25) ?hr ?_; (case hd => rfl); (case hg => rfl); (case hr => first | (go_simp; done) | (go_simp; rfl)); intro gb452 hg w27 hbox hb; have n0_ := Aside0.mk (Kd.R_below (kK HO449) hb); have n1_ := Aside0.mk (blk_below (g := gb446) (o := .cells #[.int .i64 0, .int .i64 0] 25 (0, 0)) (bK BK446) hb); have n2_ := Aside0.mk (below_step zB hb); have n3_ := Aside0.mk (hbox); have n4_ := gE hg zB; have n5_ := gE hg zB; have n6_ := Aside0.mk ((by rw [hg]; exact Nat.ne_of_lt (blk_lt (g := gb446) (o := .cells #[.int .i64 0, .int .i64 0] 25 (0, 0)) (bK BK446)) : gb446 ≠ gb452)); have n7_ := Aside0.mk ((by rw [hg]; exact Nat.ne_of_gt (blk_lt (g := gb446) (o := .cells #[.int .i64 0, .int .i64 0] 25 (0, 0)) (bK BK446)) : gb452 ≠ gb446)); clear HO449; clear BK446; clear HB; have HO449 := n0_; have BK446 := n1_; have HB := n2_; have BK452 := n3_; have GW452 := n4_; have GE452 := n5_; have NB446_452 := n6_; have NB452_446 := n7_; clear n0_ n1_ n2_ n3_ n4_ n5_ n6_ n7_; clear hb hbox hg; have hnb28 := NB452_446.out; have hnc28 := NB446_452.out; have hcz29_0 := bC BK452 0 (.int .i64 0); have hcz29_1 := bC BK452 1 (.int .i64 0); have hfz29_0 := blk_frozen BK452.out 0; have hfz29_1 := blk_frozen BK452.out 1; obtain ⟨Ao30, co30, eo30⟩ := Kd.R_slice HO449.out; subst eo30) | (refine gL (some 20) Try.func13 #[.string a0, .slice Ao30 t447.length co30] (h := ?_); (with_reducible refine (goscan_Insert.calls k a0 _ _ t447 t453 t454 _ ?side1 ?side2 A13.out).mono ?_); (case side1 => refine (Kd.R_reads' (e := 36) (base := w.heap.size) (ok := fun k_ => True) (n := t447.length) (c := co30) ?_).2.2; exact Z19); (case side2 => exact (Kd.R_reads' HO449.out).2.1); rintro e w31 ⟨v455, rfl, ho0, hb⟩; refine ⟨_, rfl, ?_⟩; have n0_ := Aside0.mk (Kd.R_elder' Z19 (Kd.R_base ho0) hb); have n1_ := Aside0.mk (Kd.R_lower (Kd.R_new' ho0 (Kd.R_lt Z19)) (below_size zB)); have n2_ := Aside0.mk (blk_below (g := gb446) (o := .cells #[.int .i64 0, .int .i64 0] 25 (0, 0)) Z46 hb); have n3_ := Aside0.mk (blk_below (g := gb452) (o := .cells #[.int .i64 t450, .int .i64 t451] 25 (0, 0)) Z34 hb); have n4_ := Aside0.mk (below_step zB hb); clear HO449; clear BK446; clear BK452; clear HB; have HO449 := n0_; have HO456 := n1_; have BK446 := n2_; have BK452 := n3_; have HB := n4_; clear n0_ n1_ n2_ n3_ n4_; (try clear hb); (try clear hb2); (try clear hk); (try clear hi); (try clear ho0); have hcz32_0 := bC BK446 0 (.int .i64 0); have hcz32_1 := bC BK446 1 (.int .i64 0); have hfz32_0 := blk_frozen BK446.out 0; have hfz32_1 := blk_frozen BK446.out 1))
   refine bodyPost_ret (results_tc rfl _ _ gb446 25 #[.int .i64 3, .int .i64 (a0.size : Int)] (0, 0) _ rfl (by (with_reducible repeat (first | refine blk_drewN ?_ _ | refine blk_drew ?_ | refine blk_alloc ?_ _)); refine blk_put (cs := #[.int .i64 3, .int .i64 0]) ?_ 1 _ rfl; (with_reducible repeat (first | refine blk_drewN ?_ _ | refine blk_drew ?_ | refine blk_alloc ?_ _)); refine blk_put (cs := #[.int .i64 0, .int .i64 0]) ?_ 0 _ rfl; (with_reducible repeat (first | refine blk_drewN ?_ _ | refine blk_drew ?_ | refine blk_alloc ?_ _)); exact BK446.out) Try.underlying25 rfl Z5) rfl ?_
   exact ⟨_, Z2, Z10, Z0⟩
end
end Go.Proofs.Ytcajiapjdlphmaa.H
