import Derived.Test.YtcajiapjdlphmaaGPre
import Derived.Test.YtcajiapjdlphmaaGbfx0
namespace Go.Proofs.Ytcajiapjdlphmaa.H
open Go.RowKit Go.Proofs.YtcajiapjdlphmaaW.PrintWords Go.Proofs.YtcajiapjdlphmaaW.PrintLast Go.Proofs.YtcajiapjdlphmaaW.PrintMore
attribute [local go_sem] max2_int min2_int max_two min_two max_three min_three max_four min_four
set_option linter.unusedVariables false
set_option linter.unusedSimpArgs false
def quoinref07_right.f (a0 : Int) (a1 : ByteArray) (l2 : List (S36)) (a3 : Int) : Option (Bool) := if 0 ≤ a3 then (if a3 < (l2.length : Int) then (if a3 > 0 then (if 0 ≤ (wrap64 (a3 - 1)) then (if (wrap64 (a3 - 1)) < (l2.length : Int) then (if ((rd_T36 l2 a3).f0) ≥ 2 then (if ((rd_T36 l2 a3).f0) < a0 then (if ((rd_T36 l2 a3).f1) ≥ ((rd_T36 l2 (wrap64 (a3 - 1))).f2) then (if ((rd_T36 l2 a3).f1) ≤ ((rd_T36 l2 a3).f2) then (some (decide (((rd_T36 l2 a3).f2) ≤ (a1.size : Int)))) else (some false)) else (some false)) else (some false)) else (some false)) else (none)) else (none)) else (if ((rd_T36 l2 a3).f0) ≥ 2 then (if ((rd_T36 l2 a3).f0) < a0 then (if ((rd_T36 l2 a3).f1) ≥ 0 then (if ((rd_T36 l2 a3).f1) ≤ ((rd_T36 l2 a3).f2) then (some (decide (((rd_T36 l2 a3).f2) ≤ (a1.size : Int)))) else (some false)) else (some false)) else (some false)) else (some false))) else (none)) else (none)
set_option maxHeartbeats 8000000 in
set_option maxRecDepth 100000 in
theorem quoinref07_right.calls (a0 : Int) (a1 : ByteArray) (A2 : Option Addr) (c2 : Nat) (l2 : List (S36)) (a3 : Int) (r : Bool) (w : World) (hr2 : Kd.C k36 w A2 l2.length l2) (hc2 : l2.length ≤ c2) (h : quoinref07_right.f a0 a1 l2 a3 = some r) :
  Calls Try.prog 65 #[.int .i64 a0, .string a1, .slice A2 l2.length c2, .int .i64 a3] w fun e w' => e = .returned (.bool r) ∧ Below w.heap.size w w' := by
 have hu36 := Try.underlying36
 have HR2 := Aside0.mk hr2
 have HC2 := Aside0.mk hc2
 clear hr2 hc2
 have HB := Aside0.mk (Below.refl w.heap.size w)
 have H : (if 0 ≤ a3 then (if a3 < (l2.length : Int) then (if a3 > 0 then (if 0 ≤ (wrap64 (a3 - 1)) then (if (wrap64 (a3 - 1)) < (l2.length : Int) then (if ((rd_T36 l2 a3).f0) ≥ 2 then (if ((rd_T36 l2 a3).f0) < a0 then (if ((rd_T36 l2 a3).f1) ≥ ((rd_T36 l2 (wrap64 (a3 - 1))).f2) then (if ((rd_T36 l2 a3).f1) ≤ ((rd_T36 l2 a3).f2) then (some (decide (((rd_T36 l2 a3).f2) ≤ (a1.size : Int)))) else (some false)) else (some false)) else (some false)) else (some false)) else (none)) else (none)) else (if ((rd_T36 l2 a3).f0) ≥ 2 then (if ((rd_T36 l2 a3).f0) < a0 then (if ((rd_T36 l2 a3).f1) ≥ 0 then (if ((rd_T36 l2 a3).f1) ≤ ((rd_T36 l2 a3).f2) then (some (decide (((rd_T36 l2 a3).f2) ≤ (a1.size : Int)))) else (some false)) else (some false)) else (some false)) else (some false))) else (none)) else (none)) = some r := h
 clear h
 by_cases c5 : 0 ≤ a3
 ·rw [if_pos c5] at H
  have c5b0 : decide (0 ≤ a3) = true := decide_eq_true c5
  clear c5
  by_cases c6 : a3 < (l2.length : Int)
  ·rw [if_pos c6] at H
   have c6b0 : decide (a3 < (l2.length : Int)) = true := decide_eq_true c6
   clear c6
   by_cases c7 : a3 > 0
   ·rw [if_pos c7] at H
    have c7b0 : decide (0 < a3) = true := decide_eq_true c7
    clear c7
    obtain ⟨ji8, hji8⟩ : ∃ j_ : Int, (wrap64 (a3 - 1)) = j_ := ⟨_, rfl⟩
    replace H : (if 0 ≤ (ji8) then (if (ji8) < (l2.length : Int) then (if ((rd_T36 l2 a3).f0) ≥ 2 then (if ((rd_T36 l2 a3).f0) < a0 then (if ((rd_T36 l2 a3).f1) ≥ ((rd_T36 l2 (ji8)).f2) then (if ((rd_T36 l2 a3).f1) ≤ ((rd_T36 l2 a3).f2) then (some (decide (((rd_T36 l2 a3).f2) ≤ (a1.size : Int)))) else (some false)) else (some false)) else (some false)) else (some false)) else (none)) else (none)) = some r := by first | (rw [hji8] at H; exact H) | (simp only [hji8] at H ⊢; exact H)
    have hji8w : (IntKind.i64.wrap (a3 - 1)) = ji8 := (i64_w _).trans hji8
    by_cases c9 : 0 ≤ (ji8)
    ·rw [if_pos c9] at H
     have c9b0 : decide (0 ≤ (ji8)) = true := decide_eq_true c9
     clear c9
     by_cases c10 : (ji8) < (l2.length : Int)
     ·rw [if_pos c10] at H
      have c10b0 : decide ((ji8) < (l2.length : Int)) = true := decide_eq_true c10
      clear c10
      by_cases c11 : ((rd_T36 l2 a3).f0) ≥ 2
      ·rw [if_pos c11] at H
       have c11b0 : decide (2 ≤ ((rd_T36 l2 a3).f0)) = true := decide_eq_true c11
       clear c11
       by_cases c12 : ((rd_T36 l2 a3).f0) < a0
       ·rw [if_pos c12] at H
        have c12b0 : decide (((rd_T36 l2 a3).f0) < a0) = true := decide_eq_true c12
        clear c12
        by_cases c13 : ((rd_T36 l2 a3).f1) ≥ ((rd_T36 l2 (ji8)).f2)
        ·rw [if_pos c13] at H
         have c13b0 : decide (((rd_T36 l2 (ji8)).f2) ≤ ((rd_T36 l2 a3).f1)) = true := decide_eq_true c13
         clear c13
         by_cases c14 : ((rd_T36 l2 a3).f1) ≤ ((rd_T36 l2 a3).f2)
         ·rw [if_pos c14] at H
          have c14b0 : decide (((rd_T36 l2 a3).f1) ≤ ((rd_T36 l2 a3).f2)) = true := decide_eq_true c14
          clear c14
          obtain rfl := Option.some.inj H
          have p526 : 0 ≤ (a3 : Int) := of_decide_eq_true (by first | (with_reducible assumption) | assumption)
          have q526 : a3 < (l2.length : Int) := of_decide_eq_true (by first | (with_reducible assumption) | assumption)
          obtain ⟨ad526, e526, hx526_0, hx526_1, hx526_2⟩ := at_T36 HR2.out a3 p526 q526
          cases e526
          replace p526 := eq_true p526
          replace q526 := eq_true q526
          go_enter Try.func65, Try.ntmps65
          go_wp2_with (first | ((with_reducible refine gate_dst (N := 9) rfl ?_); (try (refine gate_guard (by rfl) ?_; dsimp only)); refine box_event ?hg (N := 9) ?hd (cs := #[.int .i64 0, .int .i64 0, .int .i64 0]) (t := 36) ?hr ?_; (case hd => rfl); (case hg => rfl); (case hr => first | (go_simp; done) | (go_simp; rfl)); intro gb527 hg w15 hbox hb; have n0_ := Aside0.mk (below_step (by repeat (first | (with_reducible first | exact HB.out | apply below_alloc | apply pw_below_drewN | apply below_drew1) | exact HB.out)) hb); have n1_ := Aside0.mk (hbox); have n2_ := Aside0.mk ((by rw [hg]; exact (below_size (by repeat (first | (with_reducible first | exact HB.out | apply below_alloc | apply pw_below_drewN | apply below_drew1) | exact HB.out))) : w.heap.size ≤ gb527)); have n3_ := Aside0.mk ((by rw [hg]; exact (below_size (by repeat (first | (with_reducible first | exact HB.out | apply below_alloc | apply pw_below_drewN | apply below_drew1) | exact HB.out))) : w.heap.size ≤ gb527)); clear HB; have HB := n0_; have BK527 := n1_; have GW527 := n2_; have GE527 := n3_; clear n0_ n1_ n2_ n3_; clear hb hbox hg; have hcz16_0 : w15.cell? ⟨gb527, 0, none⟩ = some (.int .i64 0) := (blk_cell BK527.out 0).trans rfl; have hcz16_1 : w15.cell? ⟨gb527, 1, none⟩ = some (.int .i64 0) := (blk_cell BK527.out 1).trans rfl; have hcz16_2 : w15.cell? ⟨gb527, 2, none⟩ = some (.int .i64 0) := (blk_cell BK527.out 2).trans rfl; have hfz16_0 := blk_frozen BK527.out 0; have hfz16_1 := blk_frozen BK527.out 1; have hfz16_2 := blk_frozen BK527.out 2; have p528 : 0 ≤ ((ji8) : Int) := of_decide_eq_true (by first | (with_reducible assumption) | assumption); have q528 : (ji8) < (l2.length : Int) := of_decide_eq_true (by first | (with_reducible assumption) | assumption); obtain ⟨ad528, e528, hx528_0, hx528_1, hx528_2⟩ := at_T36 HR2.out (ji8) p528 q528; obtain rfl : ad526 = ad528 := (by injection e528); have hn528_0 : ad526.block ≠ gb527 := Nat.ne_of_lt (Nat.lt_of_lt_of_le (by have := World.block_lt_of_cell? _ _ hx528_0; first | rwa [add_block] at this | exact this) GW527.out); have hn528_1 : ad526.block ≠ gb527 := Nat.ne_of_lt (Nat.lt_of_lt_of_le (by have := World.block_lt_of_cell? _ _ hx528_0; first | rwa [add_block] at this | exact this) GW527.out); have hn528_2 : ad526.block ≠ gb527 := Nat.ne_of_lt (Nat.lt_of_lt_of_le (by have := World.block_lt_of_cell? _ _ hx528_0; first | rwa [add_block] at this | exact this) GW527.out); replace hx528_0 := (HB.out.cell (World.block_lt_of_cell? w _ hx528_0)).trans hx528_0; replace hx528_1 := (HB.out.cell (World.block_lt_of_cell? w _ hx528_1)).trans hx528_1; replace hx528_2 := (HB.out.cell (World.block_lt_of_cell? w _ hx528_2)).trans hx528_2; replace hx528_0 := (cell_far (p := ⟨gb527, 0, none⟩) (by first | (rw [add_block]; exact hn528_0) | (show (Addr.add _ _).block ≠ _; rw [add_block]; exact hn528_0) | exact hn528_0) (.int .i64 ((rd_T36 l2 a3).f0))).trans hx528_0; replace hx528_1 := (cell_far (p := ⟨gb527, 0, none⟩) (by first | (rw [add_block]; exact hn528_0) | (show (Addr.add _ _).block ≠ _; rw [add_block]; exact hn528_0) | exact hn528_0) (.int .i64 ((rd_T36 l2 a3).f0))).trans hx528_1; replace hx528_2 := (cell_far (p := ⟨gb527, 0, none⟩) (by first | (rw [add_block]; exact hn528_0) | (show (Addr.add _ _).block ≠ _; rw [add_block]; exact hn528_0) | exact hn528_0) (.int .i64 ((rd_T36 l2 a3).f0))).trans hx528_2; replace hx528_0 := (cell_far (p := ⟨gb527, 1, none⟩) (by first | (rw [add_block]; exact hn528_1) | (show (Addr.add _ _).block ≠ _; rw [add_block]; exact hn528_1) | exact hn528_1) (.int .i64 ((rd_T36 l2 a3).f1))).trans hx528_0; replace hx528_1 := (cell_far (p := ⟨gb527, 1, none⟩) (by first | (rw [add_block]; exact hn528_1) | (show (Addr.add _ _).block ≠ _; rw [add_block]; exact hn528_1) | exact hn528_1) (.int .i64 ((rd_T36 l2 a3).f1))).trans hx528_1; replace hx528_2 := (cell_far (p := ⟨gb527, 1, none⟩) (by first | (rw [add_block]; exact hn528_1) | (show (Addr.add _ _).block ≠ _; rw [add_block]; exact hn528_1) | exact hn528_1) (.int .i64 ((rd_T36 l2 a3).f1))).trans hx528_2; replace hx528_0 := (cell_far (p := ⟨gb527, 2, none⟩) (by first | (rw [add_block]; exact hn528_2) | (show (Addr.add _ _).block ≠ _; rw [add_block]; exact hn528_2) | exact hn528_2) (.int .i64 ((rd_T36 l2 a3).f2))).trans hx528_0; replace hx528_1 := (cell_far (p := ⟨gb527, 2, none⟩) (by first | (rw [add_block]; exact hn528_2) | (show (Addr.add _ _).block ≠ _; rw [add_block]; exact hn528_2) | exact hn528_2) (.int .i64 ((rd_T36 l2 a3).f2))).trans hx528_1; replace hx528_2 := (cell_far (p := ⟨gb527, 2, none⟩) (by first | (rw [add_block]; exact hn528_2) | (show (Addr.add _ _).block ≠ _; rw [add_block]; exact hn528_2) | exact hn528_2) (.int .i64 ((rd_T36 l2 a3).f2))).trans hx528_2; clear hn528_0; clear hn528_1; clear hn528_2; replace p528 := eq_true p528; replace q528 := eq_true q528))
          go_ret
          exact ⟨by first | rfl | (simp [errW_none, errW_some] <;> rfl) | (simp only [← hji8]; first | rfl | (simp [errW_none, errW_some] <;> rfl)) | (simp [*, errW_none, errW_some] <;> rfl), by repeat (first | (with_reducible first | exact HB.out | apply below_alloc | apply pw_below_drewN | apply below_drew1 | refine below_set ?_ GE527.out) | exact HB.out)⟩
         ·rw [if_neg c14] at H
          have c14b0 : decide (((rd_T36 l2 a3).f1) ≤ ((rd_T36 l2 a3).f2)) = false := decide_eq_false c14
          clear c14
          obtain rfl := Option.some.inj H
          have p526 : 0 ≤ (a3 : Int) := of_decide_eq_true (by first | (with_reducible assumption) | assumption)
          have q526 : a3 < (l2.length : Int) := of_decide_eq_true (by first | (with_reducible assumption) | assumption)
          obtain ⟨ad526, e526, hx526_0, hx526_1, hx526_2⟩ := at_T36 HR2.out a3 p526 q526
          cases e526
          replace p526 := eq_true p526
          replace q526 := eq_true q526
          go_enter Try.func65, Try.ntmps65
          go_wp2_with (first | ((with_reducible refine gate_dst (N := 9) rfl ?_); (try (refine gate_guard (by rfl) ?_; dsimp only)); refine box_event ?hg (N := 9) ?hd (cs := #[.int .i64 0, .int .i64 0, .int .i64 0]) (t := 36) ?hr ?_; (case hd => rfl); (case hg => rfl); (case hr => first | (go_simp; done) | (go_simp; rfl)); intro gb527 hg w17 hbox hb; have n0_ := Aside0.mk (below_step (by repeat (first | (with_reducible first | exact HB.out | apply below_alloc | apply pw_below_drewN | apply below_drew1) | exact HB.out)) hb); have n1_ := Aside0.mk (hbox); have n2_ := Aside0.mk ((by rw [hg]; exact (below_size (by repeat (first | (with_reducible first | exact HB.out | apply below_alloc | apply pw_below_drewN | apply below_drew1) | exact HB.out))) : w.heap.size ≤ gb527)); have n3_ := Aside0.mk ((by rw [hg]; exact (below_size (by repeat (first | (with_reducible first | exact HB.out | apply below_alloc | apply pw_below_drewN | apply below_drew1) | exact HB.out))) : w.heap.size ≤ gb527)); clear HB; have HB := n0_; have BK527 := n1_; have GW527 := n2_; have GE527 := n3_; clear n0_ n1_ n2_ n3_; clear hb hbox hg; have hcz18_0 : w17.cell? ⟨gb527, 0, none⟩ = some (.int .i64 0) := (blk_cell BK527.out 0).trans rfl; have hcz18_1 : w17.cell? ⟨gb527, 1, none⟩ = some (.int .i64 0) := (blk_cell BK527.out 1).trans rfl; have hcz18_2 : w17.cell? ⟨gb527, 2, none⟩ = some (.int .i64 0) := (blk_cell BK527.out 2).trans rfl; have hfz18_0 := blk_frozen BK527.out 0; have hfz18_1 := blk_frozen BK527.out 1; have hfz18_2 := blk_frozen BK527.out 2; have p528 : 0 ≤ ((ji8) : Int) := of_decide_eq_true (by first | (with_reducible assumption) | assumption); have q528 : (ji8) < (l2.length : Int) := of_decide_eq_true (by first | (with_reducible assumption) | assumption); obtain ⟨ad528, e528, hx528_0, hx528_1, hx528_2⟩ := at_T36 HR2.out (ji8) p528 q528; obtain rfl : ad526 = ad528 := (by injection e528); have hn528_0 : ad526.block ≠ gb527 := Nat.ne_of_lt (Nat.lt_of_lt_of_le (by have := World.block_lt_of_cell? _ _ hx528_0; first | rwa [add_block] at this | exact this) GW527.out); have hn528_1 : ad526.block ≠ gb527 := Nat.ne_of_lt (Nat.lt_of_lt_of_le (by have := World.block_lt_of_cell? _ _ hx528_0; first | rwa [add_block] at this | exact this) GW527.out); have hn528_2 : ad526.block ≠ gb527 := Nat.ne_of_lt (Nat.lt_of_lt_of_le (by have := World.block_lt_of_cell? _ _ hx528_0; first | rwa [add_block] at this | exact this) GW527.out); replace hx528_0 := (HB.out.cell (World.block_lt_of_cell? w _ hx528_0)).trans hx528_0; replace hx528_1 := (HB.out.cell (World.block_lt_of_cell? w _ hx528_1)).trans hx528_1; replace hx528_2 := (HB.out.cell (World.block_lt_of_cell? w _ hx528_2)).trans hx528_2; replace hx528_0 := (cell_far (p := ⟨gb527, 0, none⟩) (by first | (rw [add_block]; exact hn528_0) | (show (Addr.add _ _).block ≠ _; rw [add_block]; exact hn528_0) | exact hn528_0) (.int .i64 ((rd_T36 l2 a3).f0))).trans hx528_0; replace hx528_1 := (cell_far (p := ⟨gb527, 0, none⟩) (by first | (rw [add_block]; exact hn528_0) | (show (Addr.add _ _).block ≠ _; rw [add_block]; exact hn528_0) | exact hn528_0) (.int .i64 ((rd_T36 l2 a3).f0))).trans hx528_1; replace hx528_2 := (cell_far (p := ⟨gb527, 0, none⟩) (by first | (rw [add_block]; exact hn528_0) | (show (Addr.add _ _).block ≠ _; rw [add_block]; exact hn528_0) | exact hn528_0) (.int .i64 ((rd_T36 l2 a3).f0))).trans hx528_2; replace hx528_0 := (cell_far (p := ⟨gb527, 1, none⟩) (by first | (rw [add_block]; exact hn528_1) | (show (Addr.add _ _).block ≠ _; rw [add_block]; exact hn528_1) | exact hn528_1) (.int .i64 ((rd_T36 l2 a3).f1))).trans hx528_0; replace hx528_1 := (cell_far (p := ⟨gb527, 1, none⟩) (by first | (rw [add_block]; exact hn528_1) | (show (Addr.add _ _).block ≠ _; rw [add_block]; exact hn528_1) | exact hn528_1) (.int .i64 ((rd_T36 l2 a3).f1))).trans hx528_1; replace hx528_2 := (cell_far (p := ⟨gb527, 1, none⟩) (by first | (rw [add_block]; exact hn528_1) | (show (Addr.add _ _).block ≠ _; rw [add_block]; exact hn528_1) | exact hn528_1) (.int .i64 ((rd_T36 l2 a3).f1))).trans hx528_2; replace hx528_0 := (cell_far (p := ⟨gb527, 2, none⟩) (by first | (rw [add_block]; exact hn528_2) | (show (Addr.add _ _).block ≠ _; rw [add_block]; exact hn528_2) | exact hn528_2) (.int .i64 ((rd_T36 l2 a3).f2))).trans hx528_0; replace hx528_1 := (cell_far (p := ⟨gb527, 2, none⟩) (by first | (rw [add_block]; exact hn528_2) | (show (Addr.add _ _).block ≠ _; rw [add_block]; exact hn528_2) | exact hn528_2) (.int .i64 ((rd_T36 l2 a3).f2))).trans hx528_1; replace hx528_2 := (cell_far (p := ⟨gb527, 2, none⟩) (by first | (rw [add_block]; exact hn528_2) | (show (Addr.add _ _).block ≠ _; rw [add_block]; exact hn528_2) | exact hn528_2) (.int .i64 ((rd_T36 l2 a3).f2))).trans hx528_2; clear hn528_0; clear hn528_1; clear hn528_2; replace p528 := eq_true p528; replace q528 := eq_true q528))
          go_ret
          exact ⟨by first | rfl | (simp [errW_none, errW_some] <;> rfl) | (simp only [← hji8]; first | rfl | (simp [errW_none, errW_some] <;> rfl)) | (simp [*, errW_none, errW_some] <;> rfl), by repeat (first | (with_reducible first | exact HB.out | apply below_alloc | apply pw_below_drewN | apply below_drew1 | refine below_set ?_ GE527.out) | exact HB.out)⟩
        ·rw [if_neg c13] at H
         have c13b0 : decide (((rd_T36 l2 (ji8)).f2) ≤ ((rd_T36 l2 a3).f1)) = false := decide_eq_false c13
         clear c13
         obtain rfl := Option.some.inj H
         have p526 : 0 ≤ (a3 : Int) := of_decide_eq_true (by first | (with_reducible assumption) | assumption)
         have q526 : a3 < (l2.length : Int) := of_decide_eq_true (by first | (with_reducible assumption) | assumption)
         obtain ⟨ad526, e526, hx526_0, hx526_1, hx526_2⟩ := at_T36 HR2.out a3 p526 q526
         cases e526
         replace p526 := eq_true p526
         replace q526 := eq_true q526
         go_enter Try.func65, Try.ntmps65
         go_wp2_with (first | ((with_reducible refine gate_dst (N := 9) rfl ?_); (try (refine gate_guard (by rfl) ?_; dsimp only)); refine box_event ?hg (N := 9) ?hd (cs := #[.int .i64 0, .int .i64 0, .int .i64 0]) (t := 36) ?hr ?_; (case hd => rfl); (case hg => rfl); (case hr => first | (go_simp; done) | (go_simp; rfl)); intro gb527 hg w19 hbox hb; have n0_ := Aside0.mk (below_step (by repeat (first | (with_reducible first | exact HB.out | apply below_alloc | apply pw_below_drewN | apply below_drew1) | exact HB.out)) hb); have n1_ := Aside0.mk (hbox); have n2_ := Aside0.mk ((by rw [hg]; exact (below_size (by repeat (first | (with_reducible first | exact HB.out | apply below_alloc | apply pw_below_drewN | apply below_drew1) | exact HB.out))) : w.heap.size ≤ gb527)); have n3_ := Aside0.mk ((by rw [hg]; exact (below_size (by repeat (first | (with_reducible first | exact HB.out | apply below_alloc | apply pw_below_drewN | apply below_drew1) | exact HB.out))) : w.heap.size ≤ gb527)); clear HB; have HB := n0_; have BK527 := n1_; have GW527 := n2_; have GE527 := n3_; clear n0_ n1_ n2_ n3_; clear hb hbox hg; have hcz20_0 : w19.cell? ⟨gb527, 0, none⟩ = some (.int .i64 0) := (blk_cell BK527.out 0).trans rfl; have hcz20_1 : w19.cell? ⟨gb527, 1, none⟩ = some (.int .i64 0) := (blk_cell BK527.out 1).trans rfl; have hcz20_2 : w19.cell? ⟨gb527, 2, none⟩ = some (.int .i64 0) := (blk_cell BK527.out 2).trans rfl; have hfz20_0 := blk_frozen BK527.out 0; have hfz20_1 := blk_frozen BK527.out 1; have hfz20_2 := blk_frozen BK527.out 2; have p528 : 0 ≤ ((ji8) : Int) := of_decide_eq_true (by first | (with_reducible assumption) | assumption); have q528 : (ji8) < (l2.length : Int) := of_decide_eq_true (by first | (with_reducible assumption) | assumption); obtain ⟨ad528, e528, hx528_0, hx528_1, hx528_2⟩ := at_T36 HR2.out (ji8) p528 q528; obtain rfl : ad526 = ad528 := (by injection e528); have hn528_0 : ad526.block ≠ gb527 := Nat.ne_of_lt (Nat.lt_of_lt_of_le (by have := World.block_lt_of_cell? _ _ hx528_0; first | rwa [add_block] at this | exact this) GW527.out); have hn528_1 : ad526.block ≠ gb527 := Nat.ne_of_lt (Nat.lt_of_lt_of_le (by have := World.block_lt_of_cell? _ _ hx528_0; first | rwa [add_block] at this | exact this) GW527.out); have hn528_2 : ad526.block ≠ gb527 := Nat.ne_of_lt (Nat.lt_of_lt_of_le (by have := World.block_lt_of_cell? _ _ hx528_0; first | rwa [add_block] at this | exact this) GW527.out); replace hx528_0 := (HB.out.cell (World.block_lt_of_cell? w _ hx528_0)).trans hx528_0; replace hx528_1 := (HB.out.cell (World.block_lt_of_cell? w _ hx528_1)).trans hx528_1; replace hx528_2 := (HB.out.cell (World.block_lt_of_cell? w _ hx528_2)).trans hx528_2; replace hx528_0 := (cell_far (p := ⟨gb527, 0, none⟩) (by first | (rw [add_block]; exact hn528_0) | (show (Addr.add _ _).block ≠ _; rw [add_block]; exact hn528_0) | exact hn528_0) (.int .i64 ((rd_T36 l2 a3).f0))).trans hx528_0; replace hx528_1 := (cell_far (p := ⟨gb527, 0, none⟩) (by first | (rw [add_block]; exact hn528_0) | (show (Addr.add _ _).block ≠ _; rw [add_block]; exact hn528_0) | exact hn528_0) (.int .i64 ((rd_T36 l2 a3).f0))).trans hx528_1; replace hx528_2 := (cell_far (p := ⟨gb527, 0, none⟩) (by first | (rw [add_block]; exact hn528_0) | (show (Addr.add _ _).block ≠ _; rw [add_block]; exact hn528_0) | exact hn528_0) (.int .i64 ((rd_T36 l2 a3).f0))).trans hx528_2; replace hx528_0 := (cell_far (p := ⟨gb527, 1, none⟩) (by first | (rw [add_block]; exact hn528_1) | (show (Addr.add _ _).block ≠ _; rw [add_block]; exact hn528_1) | exact hn528_1) (.int .i64 ((rd_T36 l2 a3).f1))).trans hx528_0; replace hx528_1 := (cell_far (p := ⟨gb527, 1, none⟩) (by first | (rw [add_block]; exact hn528_1) | (show (Addr.add _ _).block ≠ _; rw [add_block]; exact hn528_1) | exact hn528_1) (.int .i64 ((rd_T36 l2 a3).f1))).trans hx528_1; replace hx528_2 := (cell_far (p := ⟨gb527, 1, none⟩) (by first | (rw [add_block]; exact hn528_1) | (show (Addr.add _ _).block ≠ _; rw [add_block]; exact hn528_1) | exact hn528_1) (.int .i64 ((rd_T36 l2 a3).f1))).trans hx528_2; replace hx528_0 := (cell_far (p := ⟨gb527, 2, none⟩) (by first | (rw [add_block]; exact hn528_2) | (show (Addr.add _ _).block ≠ _; rw [add_block]; exact hn528_2) | exact hn528_2) (.int .i64 ((rd_T36 l2 a3).f2))).trans hx528_0; replace hx528_1 := (cell_far (p := ⟨gb527, 2, none⟩) (by first | (rw [add_block]; exact hn528_2) | (show (Addr.add _ _).block ≠ _; rw [add_block]; exact hn528_2) | exact hn528_2) (.int .i64 ((rd_T36 l2 a3).f2))).trans hx528_1; replace hx528_2 := (cell_far (p := ⟨gb527, 2, none⟩) (by first | (rw [add_block]; exact hn528_2) | (show (Addr.add _ _).block ≠ _; rw [add_block]; exact hn528_2) | exact hn528_2) (.int .i64 ((rd_T36 l2 a3).f2))).trans hx528_2; clear hn528_0; clear hn528_1; clear hn528_2; replace p528 := eq_true p528; replace q528 := eq_true q528))
         go_ret
         exact ⟨by first | rfl | (simp [errW_none, errW_some] <;> rfl) | (simp only [← hji8]; first | rfl | (simp [errW_none, errW_some] <;> rfl)) | (simp [*, errW_none, errW_some] <;> rfl), by repeat (first | (with_reducible first | exact HB.out | apply below_alloc | apply pw_below_drewN | apply below_drew1 | refine below_set ?_ GE527.out) | exact HB.out)⟩
       ·rw [if_neg c12] at H
        have c12b0 : decide (((rd_T36 l2 a3).f0) < a0) = false := decide_eq_false c12
        clear c12
        obtain rfl := Option.some.inj H
        have p526 : 0 ≤ (a3 : Int) := of_decide_eq_true (by first | (with_reducible assumption) | assumption)
        have q526 : a3 < (l2.length : Int) := of_decide_eq_true (by first | (with_reducible assumption) | assumption)
        obtain ⟨ad526, e526, hx526_0, hx526_1, hx526_2⟩ := at_T36 HR2.out a3 p526 q526
        cases e526
        replace p526 := eq_true p526
        replace q526 := eq_true q526
        go_enter Try.func65, Try.ntmps65
        go_wp2_with (first | ((with_reducible refine gate_dst (N := 9) rfl ?_); (try (refine gate_guard (by rfl) ?_; dsimp only)); refine box_event ?hg (N := 9) ?hd (cs := #[.int .i64 0, .int .i64 0, .int .i64 0]) (t := 36) ?hr ?_; (case hd => rfl); (case hg => rfl); (case hr => first | (go_simp; done) | (go_simp; rfl)); intro gb527 hg w21 hbox hb; have n0_ := Aside0.mk (below_step (by repeat (first | (with_reducible first | exact HB.out | apply below_alloc | apply pw_below_drewN | apply below_drew1) | exact HB.out)) hb); have n1_ := Aside0.mk (hbox); have n2_ := Aside0.mk ((by rw [hg]; exact (below_size (by repeat (first | (with_reducible first | exact HB.out | apply below_alloc | apply pw_below_drewN | apply below_drew1) | exact HB.out))) : w.heap.size ≤ gb527)); have n3_ := Aside0.mk ((by rw [hg]; exact (below_size (by repeat (first | (with_reducible first | exact HB.out | apply below_alloc | apply pw_below_drewN | apply below_drew1) | exact HB.out))) : w.heap.size ≤ gb527)); clear HB; have HB := n0_; have BK527 := n1_; have GW527 := n2_; have GE527 := n3_; clear n0_ n1_ n2_ n3_; clear hb hbox hg; have hcz22_0 : w21.cell? ⟨gb527, 0, none⟩ = some (.int .i64 0) := (blk_cell BK527.out 0).trans rfl; have hcz22_1 : w21.cell? ⟨gb527, 1, none⟩ = some (.int .i64 0) := (blk_cell BK527.out 1).trans rfl; have hcz22_2 : w21.cell? ⟨gb527, 2, none⟩ = some (.int .i64 0) := (blk_cell BK527.out 2).trans rfl; have hfz22_0 := blk_frozen BK527.out 0; have hfz22_1 := blk_frozen BK527.out 1; have hfz22_2 := blk_frozen BK527.out 2; have p528 : 0 ≤ ((ji8) : Int) := of_decide_eq_true (by first | (with_reducible assumption) | assumption); have q528 : (ji8) < (l2.length : Int) := of_decide_eq_true (by first | (with_reducible assumption) | assumption); obtain ⟨ad528, e528, hx528_0, hx528_1, hx528_2⟩ := at_T36 HR2.out (ji8) p528 q528; obtain rfl : ad526 = ad528 := (by injection e528); have hn528_0 : ad526.block ≠ gb527 := Nat.ne_of_lt (Nat.lt_of_lt_of_le (by have := World.block_lt_of_cell? _ _ hx528_0; first | rwa [add_block] at this | exact this) GW527.out); have hn528_1 : ad526.block ≠ gb527 := Nat.ne_of_lt (Nat.lt_of_lt_of_le (by have := World.block_lt_of_cell? _ _ hx528_0; first | rwa [add_block] at this | exact this) GW527.out); have hn528_2 : ad526.block ≠ gb527 := Nat.ne_of_lt (Nat.lt_of_lt_of_le (by have := World.block_lt_of_cell? _ _ hx528_0; first | rwa [add_block] at this | exact this) GW527.out); replace hx528_0 := (HB.out.cell (World.block_lt_of_cell? w _ hx528_0)).trans hx528_0; replace hx528_1 := (HB.out.cell (World.block_lt_of_cell? w _ hx528_1)).trans hx528_1; replace hx528_2 := (HB.out.cell (World.block_lt_of_cell? w _ hx528_2)).trans hx528_2; replace hx528_0 := (cell_far (p := ⟨gb527, 0, none⟩) (by first | (rw [add_block]; exact hn528_0) | (show (Addr.add _ _).block ≠ _; rw [add_block]; exact hn528_0) | exact hn528_0) (.int .i64 ((rd_T36 l2 a3).f0))).trans hx528_0; replace hx528_1 := (cell_far (p := ⟨gb527, 0, none⟩) (by first | (rw [add_block]; exact hn528_0) | (show (Addr.add _ _).block ≠ _; rw [add_block]; exact hn528_0) | exact hn528_0) (.int .i64 ((rd_T36 l2 a3).f0))).trans hx528_1; replace hx528_2 := (cell_far (p := ⟨gb527, 0, none⟩) (by first | (rw [add_block]; exact hn528_0) | (show (Addr.add _ _).block ≠ _; rw [add_block]; exact hn528_0) | exact hn528_0) (.int .i64 ((rd_T36 l2 a3).f0))).trans hx528_2; replace hx528_0 := (cell_far (p := ⟨gb527, 1, none⟩) (by first | (rw [add_block]; exact hn528_1) | (show (Addr.add _ _).block ≠ _; rw [add_block]; exact hn528_1) | exact hn528_1) (.int .i64 ((rd_T36 l2 a3).f1))).trans hx528_0; replace hx528_1 := (cell_far (p := ⟨gb527, 1, none⟩) (by first | (rw [add_block]; exact hn528_1) | (show (Addr.add _ _).block ≠ _; rw [add_block]; exact hn528_1) | exact hn528_1) (.int .i64 ((rd_T36 l2 a3).f1))).trans hx528_1; replace hx528_2 := (cell_far (p := ⟨gb527, 1, none⟩) (by first | (rw [add_block]; exact hn528_1) | (show (Addr.add _ _).block ≠ _; rw [add_block]; exact hn528_1) | exact hn528_1) (.int .i64 ((rd_T36 l2 a3).f1))).trans hx528_2; replace hx528_0 := (cell_far (p := ⟨gb527, 2, none⟩) (by first | (rw [add_block]; exact hn528_2) | (show (Addr.add _ _).block ≠ _; rw [add_block]; exact hn528_2) | exact hn528_2) (.int .i64 ((rd_T36 l2 a3).f2))).trans hx528_0; replace hx528_1 := (cell_far (p := ⟨gb527, 2, none⟩) (by first | (rw [add_block]; exact hn528_2) | (show (Addr.add _ _).block ≠ _; rw [add_block]; exact hn528_2) | exact hn528_2) (.int .i64 ((rd_T36 l2 a3).f2))).trans hx528_1; replace hx528_2 := (cell_far (p := ⟨gb527, 2, none⟩) (by first | (rw [add_block]; exact hn528_2) | (show (Addr.add _ _).block ≠ _; rw [add_block]; exact hn528_2) | exact hn528_2) (.int .i64 ((rd_T36 l2 a3).f2))).trans hx528_2; clear hn528_0; clear hn528_1; clear hn528_2; replace p528 := eq_true p528; replace q528 := eq_true q528))
        go_ret
        exact ⟨by first | rfl | (simp [errW_none, errW_some] <;> rfl) | (simp only [← hji8]; first | rfl | (simp [errW_none, errW_some] <;> rfl)) | (simp [*, errW_none, errW_some] <;> rfl), by repeat (first | (with_reducible first | exact HB.out | apply below_alloc | apply pw_below_drewN | apply below_drew1 | refine below_set ?_ GE527.out) | exact HB.out)⟩
      ·rw [if_neg c11] at H
       have c11b0 : decide (2 ≤ ((rd_T36 l2 a3).f0)) = false := decide_eq_false c11
       clear c11
       obtain rfl := Option.some.inj H
       have p526 : 0 ≤ (a3 : Int) := of_decide_eq_true (by first | (with_reducible assumption) | assumption)
       have q526 : a3 < (l2.length : Int) := of_decide_eq_true (by first | (with_reducible assumption) | assumption)
       obtain ⟨ad526, e526, hx526_0, hx526_1, hx526_2⟩ := at_T36 HR2.out a3 p526 q526
       cases e526
       replace p526 := eq_true p526
       replace q526 := eq_true q526
       go_enter Try.func65, Try.ntmps65
       go_wp2_with (first | ((with_reducible refine gate_dst (N := 9) rfl ?_); (try (refine gate_guard (by rfl) ?_; dsimp only)); refine box_event ?hg (N := 9) ?hd (cs := #[.int .i64 0, .int .i64 0, .int .i64 0]) (t := 36) ?hr ?_; (case hd => rfl); (case hg => rfl); (case hr => first | (go_simp; done) | (go_simp; rfl)); intro gb527 hg w23 hbox hb; have n0_ := Aside0.mk (below_step (by repeat (first | (with_reducible first | exact HB.out | apply below_alloc | apply pw_below_drewN | apply below_drew1) | exact HB.out)) hb); have n1_ := Aside0.mk (hbox); have n2_ := Aside0.mk ((by rw [hg]; exact (below_size (by repeat (first | (with_reducible first | exact HB.out | apply below_alloc | apply pw_below_drewN | apply below_drew1) | exact HB.out))) : w.heap.size ≤ gb527)); have n3_ := Aside0.mk ((by rw [hg]; exact (below_size (by repeat (first | (with_reducible first | exact HB.out | apply below_alloc | apply pw_below_drewN | apply below_drew1) | exact HB.out))) : w.heap.size ≤ gb527)); clear HB; have HB := n0_; have BK527 := n1_; have GW527 := n2_; have GE527 := n3_; clear n0_ n1_ n2_ n3_; clear hb hbox hg; have hcz24_0 : w23.cell? ⟨gb527, 0, none⟩ = some (.int .i64 0) := (blk_cell BK527.out 0).trans rfl; have hcz24_1 : w23.cell? ⟨gb527, 1, none⟩ = some (.int .i64 0) := (blk_cell BK527.out 1).trans rfl; have hcz24_2 : w23.cell? ⟨gb527, 2, none⟩ = some (.int .i64 0) := (blk_cell BK527.out 2).trans rfl; have hfz24_0 := blk_frozen BK527.out 0; have hfz24_1 := blk_frozen BK527.out 1; have hfz24_2 := blk_frozen BK527.out 2; have p528 : 0 ≤ ((ji8) : Int) := of_decide_eq_true (by first | (with_reducible assumption) | assumption); have q528 : (ji8) < (l2.length : Int) := of_decide_eq_true (by first | (with_reducible assumption) | assumption); obtain ⟨ad528, e528, hx528_0, hx528_1, hx528_2⟩ := at_T36 HR2.out (ji8) p528 q528; obtain rfl : ad526 = ad528 := (by injection e528); have hn528_0 : ad526.block ≠ gb527 := Nat.ne_of_lt (Nat.lt_of_lt_of_le (by have := World.block_lt_of_cell? _ _ hx528_0; first | rwa [add_block] at this | exact this) GW527.out); have hn528_1 : ad526.block ≠ gb527 := Nat.ne_of_lt (Nat.lt_of_lt_of_le (by have := World.block_lt_of_cell? _ _ hx528_0; first | rwa [add_block] at this | exact this) GW527.out); have hn528_2 : ad526.block ≠ gb527 := Nat.ne_of_lt (Nat.lt_of_lt_of_le (by have := World.block_lt_of_cell? _ _ hx528_0; first | rwa [add_block] at this | exact this) GW527.out); replace hx528_0 := (HB.out.cell (World.block_lt_of_cell? w _ hx528_0)).trans hx528_0; replace hx528_1 := (HB.out.cell (World.block_lt_of_cell? w _ hx528_1)).trans hx528_1; replace hx528_2 := (HB.out.cell (World.block_lt_of_cell? w _ hx528_2)).trans hx528_2; replace hx528_0 := (cell_far (p := ⟨gb527, 0, none⟩) (by first | (rw [add_block]; exact hn528_0) | (show (Addr.add _ _).block ≠ _; rw [add_block]; exact hn528_0) | exact hn528_0) (.int .i64 ((rd_T36 l2 a3).f0))).trans hx528_0; replace hx528_1 := (cell_far (p := ⟨gb527, 0, none⟩) (by first | (rw [add_block]; exact hn528_0) | (show (Addr.add _ _).block ≠ _; rw [add_block]; exact hn528_0) | exact hn528_0) (.int .i64 ((rd_T36 l2 a3).f0))).trans hx528_1; replace hx528_2 := (cell_far (p := ⟨gb527, 0, none⟩) (by first | (rw [add_block]; exact hn528_0) | (show (Addr.add _ _).block ≠ _; rw [add_block]; exact hn528_0) | exact hn528_0) (.int .i64 ((rd_T36 l2 a3).f0))).trans hx528_2; replace hx528_0 := (cell_far (p := ⟨gb527, 1, none⟩) (by first | (rw [add_block]; exact hn528_1) | (show (Addr.add _ _).block ≠ _; rw [add_block]; exact hn528_1) | exact hn528_1) (.int .i64 ((rd_T36 l2 a3).f1))).trans hx528_0; replace hx528_1 := (cell_far (p := ⟨gb527, 1, none⟩) (by first | (rw [add_block]; exact hn528_1) | (show (Addr.add _ _).block ≠ _; rw [add_block]; exact hn528_1) | exact hn528_1) (.int .i64 ((rd_T36 l2 a3).f1))).trans hx528_1; replace hx528_2 := (cell_far (p := ⟨gb527, 1, none⟩) (by first | (rw [add_block]; exact hn528_1) | (show (Addr.add _ _).block ≠ _; rw [add_block]; exact hn528_1) | exact hn528_1) (.int .i64 ((rd_T36 l2 a3).f1))).trans hx528_2; replace hx528_0 := (cell_far (p := ⟨gb527, 2, none⟩) (by first | (rw [add_block]; exact hn528_2) | (show (Addr.add _ _).block ≠ _; rw [add_block]; exact hn528_2) | exact hn528_2) (.int .i64 ((rd_T36 l2 a3).f2))).trans hx528_0; replace hx528_1 := (cell_far (p := ⟨gb527, 2, none⟩) (by first | (rw [add_block]; exact hn528_2) | (show (Addr.add _ _).block ≠ _; rw [add_block]; exact hn528_2) | exact hn528_2) (.int .i64 ((rd_T36 l2 a3).f2))).trans hx528_1; replace hx528_2 := (cell_far (p := ⟨gb527, 2, none⟩) (by first | (rw [add_block]; exact hn528_2) | (show (Addr.add _ _).block ≠ _; rw [add_block]; exact hn528_2) | exact hn528_2) (.int .i64 ((rd_T36 l2 a3).f2))).trans hx528_2; clear hn528_0; clear hn528_1; clear hn528_2; replace p528 := eq_true p528; replace q528 := eq_true q528))
       go_ret
       exact ⟨by first | rfl | (simp [errW_none, errW_some] <;> rfl) | (simp only [← hji8]; first | rfl | (simp [errW_none, errW_some] <;> rfl)) | (simp [*, errW_none, errW_some] <;> rfl), by repeat (first | (with_reducible first | exact HB.out | apply below_alloc | apply pw_below_drewN | apply below_drew1 | refine below_set ?_ GE527.out) | exact HB.out)⟩
     ·rw [if_neg c10] at H
      exact absurd H (by simp)
    ·rw [if_neg c9] at H
     exact absurd H (by simp)
   ·rw [if_neg c7] at H
    have c7b0 : decide (0 < a3) = false := decide_eq_false c7
    clear c7
    by_cases c25 : ((rd_T36 l2 a3).f0) ≥ 2
    ·rw [if_pos c25] at H
     have c25b0 : decide (2 ≤ ((rd_T36 l2 a3).f0)) = true := decide_eq_true c25
     clear c25
     by_cases c26 : ((rd_T36 l2 a3).f0) < a0
     ·rw [if_pos c26] at H
      have c26b0 : decide (((rd_T36 l2 a3).f0) < a0) = true := decide_eq_true c26
      clear c26
      by_cases c27 : ((rd_T36 l2 a3).f1) ≥ 0
      ·rw [if_pos c27] at H
       have c27b0 : decide (0 ≤ ((rd_T36 l2 a3).f1)) = true := decide_eq_true c27
       clear c27
       by_cases c28 : ((rd_T36 l2 a3).f1) ≤ ((rd_T36 l2 a3).f2)
       ·rw [if_pos c28] at H
        have c28b0 : decide (((rd_T36 l2 a3).f1) ≤ ((rd_T36 l2 a3).f2)) = true := decide_eq_true c28
        clear c28
        obtain rfl := Option.some.inj H
        have p526 : 0 ≤ (a3 : Int) := of_decide_eq_true (by first | (with_reducible assumption) | assumption)
        have q526 : a3 < (l2.length : Int) := of_decide_eq_true (by first | (with_reducible assumption) | assumption)
        obtain ⟨ad526, e526, hx526_0, hx526_1, hx526_2⟩ := at_T36 HR2.out a3 p526 q526
        cases e526
        replace p526 := eq_true p526
        replace q526 := eq_true q526
        go_enter Try.func65, Try.ntmps65
        go_wp2_with (first | ((with_reducible refine gate_dst (N := 9) rfl ?_); (try (refine gate_guard (by rfl) ?_; dsimp only)); refine box_event ?hg (N := 9) ?hd (cs := #[.int .i64 0, .int .i64 0, .int .i64 0]) (t := 36) ?hr ?_; (case hd => rfl); (case hg => rfl); (case hr => first | (go_simp; done) | (go_simp; rfl)); intro gb527 hg w29 hbox hb; have n0_ := Aside0.mk (below_step (by repeat (first | (with_reducible first | exact HB.out | apply below_alloc | apply pw_below_drewN | apply below_drew1) | exact HB.out)) hb); have n1_ := Aside0.mk (hbox); have n2_ := Aside0.mk ((by rw [hg]; exact (below_size (by repeat (first | (with_reducible first | exact HB.out | apply below_alloc | apply pw_below_drewN | apply below_drew1) | exact HB.out))) : w.heap.size ≤ gb527)); have n3_ := Aside0.mk ((by rw [hg]; exact (below_size (by repeat (first | (with_reducible first | exact HB.out | apply below_alloc | apply pw_below_drewN | apply below_drew1) | exact HB.out))) : w.heap.size ≤ gb527)); clear HB; have HB := n0_; have BK527 := n1_; have GW527 := n2_; have GE527 := n3_; clear n0_ n1_ n2_ n3_; clear hb hbox hg; have hcz30_0 : w29.cell? ⟨gb527, 0, none⟩ = some (.int .i64 0) := (blk_cell BK527.out 0).trans rfl; have hcz30_1 : w29.cell? ⟨gb527, 1, none⟩ = some (.int .i64 0) := (blk_cell BK527.out 1).trans rfl; have hcz30_2 : w29.cell? ⟨gb527, 2, none⟩ = some (.int .i64 0) := (blk_cell BK527.out 2).trans rfl; have hfz30_0 := blk_frozen BK527.out 0; have hfz30_1 := blk_frozen BK527.out 1; have hfz30_2 := blk_frozen BK527.out 2))
        go_ret
        exact ⟨by first | rfl | (simp [errW_none, errW_some] <;> rfl) | (simp [*, errW_none, errW_some] <;> rfl), by repeat (first | (with_reducible first | exact HB.out | apply below_alloc | apply pw_below_drewN | apply below_drew1 | refine below_set ?_ GE527.out) | exact HB.out)⟩
       ·rw [if_neg c28] at H
        have c28b0 : decide (((rd_T36 l2 a3).f1) ≤ ((rd_T36 l2 a3).f2)) = false := decide_eq_false c28
        clear c28
        obtain rfl := Option.some.inj H
        have p526 : 0 ≤ (a3 : Int) := of_decide_eq_true (by first | (with_reducible assumption) | assumption)
        have q526 : a3 < (l2.length : Int) := of_decide_eq_true (by first | (with_reducible assumption) | assumption)
        obtain ⟨ad526, e526, hx526_0, hx526_1, hx526_2⟩ := at_T36 HR2.out a3 p526 q526
        cases e526
        replace p526 := eq_true p526
        replace q526 := eq_true q526
        go_enter Try.func65, Try.ntmps65
        go_wp2_with (first | ((with_reducible refine gate_dst (N := 9) rfl ?_); (try (refine gate_guard (by rfl) ?_; dsimp only)); refine box_event ?hg (N := 9) ?hd (cs := #[.int .i64 0, .int .i64 0, .int .i64 0]) (t := 36) ?hr ?_; (case hd => rfl); (case hg => rfl); (case hr => first | (go_simp; done) | (go_simp; rfl)); intro gb527 hg w31 hbox hb; have n0_ := Aside0.mk (below_step (by repeat (first | (with_reducible first | exact HB.out | apply below_alloc | apply pw_below_drewN | apply below_drew1) | exact HB.out)) hb); have n1_ := Aside0.mk (hbox); have n2_ := Aside0.mk ((by rw [hg]; exact (below_size (by repeat (first | (with_reducible first | exact HB.out | apply below_alloc | apply pw_below_drewN | apply below_drew1) | exact HB.out))) : w.heap.size ≤ gb527)); have n3_ := Aside0.mk ((by rw [hg]; exact (below_size (by repeat (first | (with_reducible first | exact HB.out | apply below_alloc | apply pw_below_drewN | apply below_drew1) | exact HB.out))) : w.heap.size ≤ gb527)); clear HB; have HB := n0_; have BK527 := n1_; have GW527 := n2_; have GE527 := n3_; clear n0_ n1_ n2_ n3_; clear hb hbox hg; have hcz32_0 : w31.cell? ⟨gb527, 0, none⟩ = some (.int .i64 0) := (blk_cell BK527.out 0).trans rfl; have hcz32_1 : w31.cell? ⟨gb527, 1, none⟩ = some (.int .i64 0) := (blk_cell BK527.out 1).trans rfl; have hcz32_2 : w31.cell? ⟨gb527, 2, none⟩ = some (.int .i64 0) := (blk_cell BK527.out 2).trans rfl; have hfz32_0 := blk_frozen BK527.out 0; have hfz32_1 := blk_frozen BK527.out 1; have hfz32_2 := blk_frozen BK527.out 2))
        go_ret
        exact ⟨by first | rfl | (simp [errW_none, errW_some] <;> rfl) | (simp [*, errW_none, errW_some] <;> rfl), by repeat (first | (with_reducible first | exact HB.out | apply below_alloc | apply pw_below_drewN | apply below_drew1 | refine below_set ?_ GE527.out) | exact HB.out)⟩
      ·rw [if_neg c27] at H
       have c27b0 : decide (0 ≤ ((rd_T36 l2 a3).f1)) = false := decide_eq_false c27
       clear c27
       obtain rfl := Option.some.inj H
       have p526 : 0 ≤ (a3 : Int) := of_decide_eq_true (by first | (with_reducible assumption) | assumption)
       have q526 : a3 < (l2.length : Int) := of_decide_eq_true (by first | (with_reducible assumption) | assumption)
       obtain ⟨ad526, e526, hx526_0, hx526_1, hx526_2⟩ := at_T36 HR2.out a3 p526 q526
       cases e526
       replace p526 := eq_true p526
       replace q526 := eq_true q526
       go_enter Try.func65, Try.ntmps65
       go_wp2_with (first | ((with_reducible refine gate_dst (N := 9) rfl ?_); (try (refine gate_guard (by rfl) ?_; dsimp only)); refine box_event ?hg (N := 9) ?hd (cs := #[.int .i64 0, .int .i64 0, .int .i64 0]) (t := 36) ?hr ?_; (case hd => rfl); (case hg => rfl); (case hr => first | (go_simp; done) | (go_simp; rfl)); intro gb527 hg w33 hbox hb; have n0_ := Aside0.mk (below_step (by repeat (first | (with_reducible first | exact HB.out | apply below_alloc | apply pw_below_drewN | apply below_drew1) | exact HB.out)) hb); have n1_ := Aside0.mk (hbox); have n2_ := Aside0.mk ((by rw [hg]; exact (below_size (by repeat (first | (with_reducible first | exact HB.out | apply below_alloc | apply pw_below_drewN | apply below_drew1) | exact HB.out))) : w.heap.size ≤ gb527)); have n3_ := Aside0.mk ((by rw [hg]; exact (below_size (by repeat (first | (with_reducible first | exact HB.out | apply below_alloc | apply pw_below_drewN | apply below_drew1) | exact HB.out))) : w.heap.size ≤ gb527)); clear HB; have HB := n0_; have BK527 := n1_; have GW527 := n2_; have GE527 := n3_; clear n0_ n1_ n2_ n3_; clear hb hbox hg; have hcz34_0 : w33.cell? ⟨gb527, 0, none⟩ = some (.int .i64 0) := (blk_cell BK527.out 0).trans rfl; have hcz34_1 : w33.cell? ⟨gb527, 1, none⟩ = some (.int .i64 0) := (blk_cell BK527.out 1).trans rfl; have hcz34_2 : w33.cell? ⟨gb527, 2, none⟩ = some (.int .i64 0) := (blk_cell BK527.out 2).trans rfl; have hfz34_0 := blk_frozen BK527.out 0; have hfz34_1 := blk_frozen BK527.out 1; have hfz34_2 := blk_frozen BK527.out 2))
       go_ret
       exact ⟨by first | rfl | (simp [errW_none, errW_some] <;> rfl) | (simp [*, errW_none, errW_some] <;> rfl), by repeat (first | (with_reducible first | exact HB.out | apply below_alloc | apply pw_below_drewN | apply below_drew1 | refine below_set ?_ GE527.out) | exact HB.out)⟩
     ·rw [if_neg c26] at H
      have c26b0 : decide (((rd_T36 l2 a3).f0) < a0) = false := decide_eq_false c26
      clear c26
      obtain rfl := Option.some.inj H
      have p526 : 0 ≤ (a3 : Int) := of_decide_eq_true (by first | (with_reducible assumption) | assumption)
      have q526 : a3 < (l2.length : Int) := of_decide_eq_true (by first | (with_reducible assumption) | assumption)
      obtain ⟨ad526, e526, hx526_0, hx526_1, hx526_2⟩ := at_T36 HR2.out a3 p526 q526
      cases e526
      replace p526 := eq_true p526
      replace q526 := eq_true q526
      go_enter Try.func65, Try.ntmps65
      go_wp2_with (first | ((with_reducible refine gate_dst (N := 9) rfl ?_); (try (refine gate_guard (by rfl) ?_; dsimp only)); refine box_event ?hg (N := 9) ?hd (cs := #[.int .i64 0, .int .i64 0, .int .i64 0]) (t := 36) ?hr ?_; (case hd => rfl); (case hg => rfl); (case hr => first | (go_simp; done) | (go_simp; rfl)); intro gb527 hg w35 hbox hb; have n0_ := Aside0.mk (below_step (by repeat (first | (with_reducible first | exact HB.out | apply below_alloc | apply pw_below_drewN | apply below_drew1) | exact HB.out)) hb); have n1_ := Aside0.mk (hbox); have n2_ := Aside0.mk ((by rw [hg]; exact (below_size (by repeat (first | (with_reducible first | exact HB.out | apply below_alloc | apply pw_below_drewN | apply below_drew1) | exact HB.out))) : w.heap.size ≤ gb527)); have n3_ := Aside0.mk ((by rw [hg]; exact (below_size (by repeat (first | (with_reducible first | exact HB.out | apply below_alloc | apply pw_below_drewN | apply below_drew1) | exact HB.out))) : w.heap.size ≤ gb527)); clear HB; have HB := n0_; have BK527 := n1_; have GW527 := n2_; have GE527 := n3_; clear n0_ n1_ n2_ n3_; clear hb hbox hg; have hcz36_0 : w35.cell? ⟨gb527, 0, none⟩ = some (.int .i64 0) := (blk_cell BK527.out 0).trans rfl; have hcz36_1 : w35.cell? ⟨gb527, 1, none⟩ = some (.int .i64 0) := (blk_cell BK527.out 1).trans rfl; have hcz36_2 : w35.cell? ⟨gb527, 2, none⟩ = some (.int .i64 0) := (blk_cell BK527.out 2).trans rfl; have hfz36_0 := blk_frozen BK527.out 0; have hfz36_1 := blk_frozen BK527.out 1; have hfz36_2 := blk_frozen BK527.out 2))
      go_ret
      exact ⟨by first | rfl | (simp [errW_none, errW_some] <;> rfl) | (simp [*, errW_none, errW_some] <;> rfl), by repeat (first | (with_reducible first | exact HB.out | apply below_alloc | apply pw_below_drewN | apply below_drew1 | refine below_set ?_ GE527.out) | exact HB.out)⟩
    ·rw [if_neg c25] at H
     have c25b0 : decide (2 ≤ ((rd_T36 l2 a3).f0)) = false := decide_eq_false c25
     clear c25
     obtain rfl := Option.some.inj H
     have p526 : 0 ≤ (a3 : Int) := of_decide_eq_true (by first | (with_reducible assumption) | assumption)
     have q526 : a3 < (l2.length : Int) := of_decide_eq_true (by first | (with_reducible assumption) | assumption)
     obtain ⟨ad526, e526, hx526_0, hx526_1, hx526_2⟩ := at_T36 HR2.out a3 p526 q526
     cases e526
     replace p526 := eq_true p526
     replace q526 := eq_true q526
     go_enter Try.func65, Try.ntmps65
     go_wp2_with (first | ((with_reducible refine gate_dst (N := 9) rfl ?_); (try (refine gate_guard (by rfl) ?_; dsimp only)); refine box_event ?hg (N := 9) ?hd (cs := #[.int .i64 0, .int .i64 0, .int .i64 0]) (t := 36) ?hr ?_; (case hd => rfl); (case hg => rfl); (case hr => first | (go_simp; done) | (go_simp; rfl)); intro gb527 hg w37 hbox hb; have n0_ := Aside0.mk (below_step (by repeat (first | (with_reducible first | exact HB.out | apply below_alloc | apply pw_below_drewN | apply below_drew1) | exact HB.out)) hb); have n1_ := Aside0.mk (hbox); have n2_ := Aside0.mk ((by rw [hg]; exact (below_size (by repeat (first | (with_reducible first | exact HB.out | apply below_alloc | apply pw_below_drewN | apply below_drew1) | exact HB.out))) : w.heap.size ≤ gb527)); have n3_ := Aside0.mk ((by rw [hg]; exact (below_size (by repeat (first | (with_reducible first | exact HB.out | apply below_alloc | apply pw_below_drewN | apply below_drew1) | exact HB.out))) : w.heap.size ≤ gb527)); clear HB; have HB := n0_; have BK527 := n1_; have GW527 := n2_; have GE527 := n3_; clear n0_ n1_ n2_ n3_; clear hb hbox hg; have hcz38_0 : w37.cell? ⟨gb527, 0, none⟩ = some (.int .i64 0) := (blk_cell BK527.out 0).trans rfl; have hcz38_1 : w37.cell? ⟨gb527, 1, none⟩ = some (.int .i64 0) := (blk_cell BK527.out 1).trans rfl; have hcz38_2 : w37.cell? ⟨gb527, 2, none⟩ = some (.int .i64 0) := (blk_cell BK527.out 2).trans rfl; have hfz38_0 := blk_frozen BK527.out 0; have hfz38_1 := blk_frozen BK527.out 1; have hfz38_2 := blk_frozen BK527.out 2))
     go_ret
     exact ⟨by first | rfl | (simp [errW_none, errW_some] <;> rfl) | (simp [*, errW_none, errW_some] <;> rfl), by repeat (first | (with_reducible first | exact HB.out | apply below_alloc | apply pw_below_drewN | apply below_drew1 | refine below_set ?_ GE527.out) | exact HB.out)⟩
  ·rw [if_neg c6] at H
   exact absurd H (by simp)
 ·rw [if_neg c5] at H
  exact absurd H (by simp)
def quoinref07_Check.l0 : Nat → List ByteArray → ByteArray → List (S36) → Int → Option (Int × Int)
 | 0, _, _, _, _ => none
 | k + 1, x0, x1, x2, x8 => if x8 < (x2.length : Int) then ((quoinref07_right.f (x0.length : Int) x1 x2 x8).bind fun t530 => (if t530 = true then (quoinref07_Check.l0 k x0 x1 x2 (wrap64 (x8 + 1))) else (some (x8, 71)))) else (some (0, 0))
def quoinref07_Check.f (k : Nat) (l0 : List ByteArray) (a1 : ByteArray) (l2 : List (S36)) : Option (Int × Int) := (quoinref07_Kinds.f k l0).bind fun t529 => (if t529 = true then (if (l2.length : Int) > 65536 then (some (65536, 71)) else (quoinref07_Check.l0 k l0 a1 l2 0)) else (some (0, 70)))
theorem quoinref07_Check.mono_l : ∀ k, (∀ y0 y1 y2 y3, LeO (quoinref07_Check.l0 k y0 y1 y2 y3) (quoinref07_Check.l0 (k + 1) y0 y1 y2 y3))
 | 0 => fun _ _ _ _ r h => by simp [quoinref07_Check.l0] at h
 | k + 1 => by
  have ih0 := quoinref07_Check.mono_l k
  ·intro y0 y1 y2 y3
   unfold quoinref07_Check.l0
   repeat' first
   | (with_reducible exact ih0 _ _ _ _)
   | (with_reducible exact quoinref07_Kinds.mono _ _)
   | (with_reducible exact LeO.refl _)
   | (with_reducible exact LeO.none _)
   | (with_reducible refine LeO.ite ?_ ?_)
   | (with_reducible refine LeO.bind ?_ (fun _ => ?_))
   | exact ih0 _ _ _ _
   | exact quoinref07_Kinds.mono _ _
   | exact LeO.none _
   | refine LeO.ite ?_ ?_
   | refine LeO.bind ?_ (fun _ => ?_)
theorem quoinref07_Check.mono : ∀ a0 a1 a2 k, LeO (quoinref07_Check.f k a0 a1 a2) (quoinref07_Check.f (k + 1) a0 a1 a2) := by
 intro a0 a1 a2 k
 have ih0 := quoinref07_Check.mono_l k
 unfold quoinref07_Check.f
 repeat' first
   | (with_reducible exact ih0 _ _ _ _)
   | (with_reducible exact quoinref07_Kinds.mono _ _)
   | (with_reducible exact LeO.refl _)
   | (with_reducible exact LeO.none _)
   | (with_reducible refine LeO.ite ?_ ?_)
   | (with_reducible refine LeO.bind ?_ (fun _ => ?_))
   | exact ih0 _ _ _ _
   | exact quoinref07_Kinds.mono _ _
   | exact LeO.none _
   | refine LeO.ite ?_ ?_
   | refine LeO.bind ?_ (fun _ => ?_)
set_option maxHeartbeats 8000000 in
set_option maxRecDepth 100000 in
theorem quoinref07_Check.calls (k : Nat) (A0 : Option Addr) (c0 : Nat) (l0 : List ByteArray) (a1 : ByteArray) (A2 : Option Addr) (c2 : Nat) (l2 : List (S36)) (r1 : Int) (r2 : Int) (w : World) (hr0 : Kd.C Kd.string w A0 l0.length l0) (hc0 : l0.length ≤ c0) (hr2 : Kd.C k36 w A2 l2.length l2) (hc2 : l2.length ≤ c2) (h : quoinref07_Check.f k l0 a1 l2 = some (r1, r2)) :
  Calls Try.prog 37 #[.slice A0 l0.length c0, .string a1, .slice A2 l2.length c2] w fun e w' => e = .returned (.tuple #[.int .i64 r1, .int .i64 r2]) ∧ Below w.heap.size w w' := by
 have HR0 := Aside0.mk hr0
 have HC0 := Aside0.mk hc0
 clear hr0 hc0
 have HR2 := Aside0.mk hr2
 have HC2 := Aside0.mk hc2
 clear hr2 hc2
 have HB := Aside0.mk (Below.refl w.heap.size w)
 have H : ((quoinref07_Kinds.f k l0).bind fun t529 => (if t529 = true then (if (l2.length : Int) > 65536 then (some (65536, 71)) else (quoinref07_Check.l0 k l0 a1 l2 0)) else (some (0, 70)))) = some (r1, r2) := h
 clear h
 replace H := Option.bind_eq_some_iff.mp H
 obtain ⟨t529, A40, H⟩ := H
 replace H : (if t529 = true then (if (l2.length : Int) > 65536 then (some (65536, 71)) else (quoinref07_Check.l0 k l0 a1 l2 0)) else (some (0, 70))) = some (r1, r2) := H
 have A4 := Aside0.mk A40
 clear A40
 by_cases c5 : t529 = true
 ·subst c5
  have H1 : (if (l2.length : Int) > 65536 then (some (65536, 71)) else (quoinref07_Check.l0 k l0 a1 l2 0)) = some (r1, r2) := by rw [if_pos rfl] at H; exact H
  clear H
  have H := H1
  clear H1
  by_cases c6 : (l2.length : Int) > 65536
  ·rw [if_pos c6] at H
   have c6b0 : decide (65536 < (l2.length : Int)) = true := decide_eq_true c6
   have c6b1 : decide (65536 < l2.length) = true := decide_eq_true (by omega)
   clear c6
   simp only [Option.some.injEq, Prod.mk.injEq] at H
   obtain ⟨rfl, rfl⟩ := H
   go_enter Try.func37, Try.ntmps37
   go_wp2_with (first | ((with_reducible refine gate_callee (f := 64) rfl ?_); refine goesL_ (some 10) rfl rfl Try.func64 (by kernel_rfl) rfl #[.slice A0 l0.length c0] rfl (by (try simp only [List.map_toArray, List.map_cons, List.map_nil]); first | done | rfl | (simp only [List.length_drop, List.length_take]; rfl)) ?_; (with_reducible refine (quoinref07_Kinds.calls k _ _ l0 true _ ?side1 ?side2 A4.out).mono ?_); (case side1 => repeat (first | exact HR0.out | (with_reducible refine Kd.C_alloc ?_ _) | (with_reducible refine Kd.C_drewN ?_ _) | (with_reducible refine Kd.C_drew ?_))); (case side2 => exact HC0.out); rintro e w' ⟨rfl, ⟨nd, rfl⟩⟩; refine ⟨_, rfl, ?_⟩))
   go_ret2
   exact ⟨by first | rfl | (simp [errW_none, errW_some] <;> rfl) | (simp [*, errW_none, errW_some] <;> rfl), by repeat (first | (with_reducible first | exact HB.out | apply below_alloc | apply pw_below_drewN | apply below_drew1) | exact HB.out)⟩
  ·rw [if_neg c6] at H
   have c6b0 : decide (65536 < (l2.length : Int)) = false := decide_eq_false c6
   have c6b1 : decide (65536 < l2.length) = false := decide_eq_false (by omega)
   clear c6
   have H' := Aside0.mk H
   clear H
   go_enter Try.func37, Try.ntmps37
   go_wp2_with (first | ((with_reducible refine gate_callee (f := 64) rfl ?_); refine goesL_ (some 10) rfl rfl Try.func64 (by kernel_rfl) rfl #[.slice A0 l0.length c0] rfl (by (try simp only [List.map_toArray, List.map_cons, List.map_nil]); first | done | rfl | (simp only [List.length_drop, List.length_take]; rfl)) ?_; (with_reducible refine (quoinref07_Kinds.calls k _ _ l0 true _ ?side1 ?side2 A4.out).mono ?_); (case side1 => repeat (first | exact HR0.out | (with_reducible refine Kd.C_alloc ?_ _) | (with_reducible refine Kd.C_drewN ?_ _) | (with_reducible refine Kd.C_drew ?_))); (case side2 => exact HC0.out); rintro e w' ⟨rfl, ⟨nd, rfl⟩⟩; refine ⟨_, rfl, ?_⟩))
   go_loopg [8] k (fun kq v8 w' => ∃ (x8_1 : Int), v8 = .int .i64 x8_1 ∧ Aside0 (quoinref07_Check.l0 kq l0 a1 l2 x8_1 = some (r1, r2)) ∧ Aside0 (kq ≤ k) ∧ Aside0 (Below w.heap.size w w'))
   case atStart => exact ⟨(0), (by first | rfl | (simp; done) | (simp [*]; done) | (simp <;> omega) | rw [u32_tmod]), H', ⟨Nat.le_refl _⟩, ⟨by repeat (first | (with_reducible first | exact HB.out | apply below_alloc | apply pw_below_drewN | apply below_drew1) | exact HB.out)⟩⟩
   case round =>
    clear H'
    try clear c2
    try clear p2
    try clear c3
    try clear c5
    try clear c6
    try clear c6b0
    try clear c6b1
    obtain ⟨x8_1, rfl, HA, HK1, HB⟩ := hrel
    cases gk with
    | zero => exact absurd HA.out (by simp [quoinref07_Check.l0])
    | succ k1 =>
     have H := HA.out
     clear HA
     simp only [quoinref07_Check.l0] at H
     by_cases c7 : x8_1 < (l2.length : Int)
     ·rw [if_pos c7] at H
      have c7b0 : decide (x8_1 < (l2.length : Int)) = true := decide_eq_true c7
      clear c7
      replace H := Option.bind_eq_some_iff.mp H
      obtain ⟨t530, A80, H⟩ := H
      replace H : (if t530 = true then (quoinref07_Check.l0 k1 l0 a1 l2 (wrap64 (x8_1 + 1))) else (some (x8_1, 71))) = some (r1, r2) := H
      have A8 := Aside0.mk A80
      clear A80
      by_cases c9 : t530 = true
      ·subst c9
       have H1 : (quoinref07_Check.l0 k1 l0 a1 l2 (wrap64 (x8_1 + 1))) = some (r1, r2) := by rw [if_pos rfl] at H; exact H
       clear H
       have H := H1
       clear H1
       have H' := Aside0.mk H
       clear H
       go_wp2_with (first | ((with_reducible refine gate_callee (f := 65) rfl ?_); refine goesL_ (some 26) rfl rfl Try.func65 (by kernel_rfl) rfl #[.int .i64 (l0.length : Int), .string a1, .slice A2 l2.length c2, .int .i64 x8_1] rfl (by (try simp only [List.map_toArray, List.map_cons, List.map_nil]); first | done | rfl | (simp only [List.length_drop, List.length_take]; rfl)) ?_; (with_reducible refine (quoinref07_right.calls (l0.length : Int) a1 _ _ l2 x8_1 true _ ?side1 ?side2 A8.out).mono ?_); (case side1 => repeat (first | exact (Kd.C_below HR2.out HB.out) | (with_reducible refine Kd.C_alloc ?_ _) | (with_reducible refine Kd.C_drewN ?_ _) | (with_reducible refine Kd.C_drew ?_))); (case side2 => exact HC2.out); rintro e w10 ⟨rfl, hb⟩; refine ⟨_, rfl, ?_⟩; have n0_ := Aside0.mk (below_step (by repeat (first | (with_reducible first | exact HB.out | apply below_alloc | apply pw_below_drewN | apply below_drew1) | exact HB.out)) hb); clear HB; have HB := n0_; clear n0_; (try clear hb); (try clear hb2); (try clear hk); (try clear hi)))
       go_roundg k1
       case measure => have := HK1.out; omega
       case rel => exact ⟨(wrap64 (x8_1 + 1)), (by first | rfl | (simp; done) | (simp [*]; done) | (simp <;> omega) | rw [u32_tmod]), H', ⟨by have := HK1.out; omega⟩, ⟨by repeat (first | (with_reducible first | exact HB.out | apply below_alloc | apply pw_below_drewN | apply below_drew1) | exact HB.out)⟩⟩
      ·replace c9 := Bool.eq_false_iff.mpr c9
       subst c9
       have H1 : (some (x8_1, 71)) = some (r1, r2) := by rw [if_neg (show ¬ (false = true) by decide)] at H; exact H
       clear H
       have H := H1
       clear H1
       simp only [Option.some.injEq, Prod.mk.injEq] at H
       obtain ⟨rfl, rfl⟩ := H
       go_wp2_with (first | ((with_reducible refine gate_callee (f := 65) rfl ?_); refine goesL_ (some 26) rfl rfl Try.func65 (by kernel_rfl) rfl #[.int .i64 (l0.length : Int), .string a1, .slice A2 l2.length c2, .int .i64 x8_1] rfl (by (try simp only [List.map_toArray, List.map_cons, List.map_nil]); first | done | rfl | (simp only [List.length_drop, List.length_take]; rfl)) ?_; (with_reducible refine (quoinref07_right.calls (l0.length : Int) a1 _ _ l2 x8_1 false _ ?side1 ?side2 A8.out).mono ?_); (case side1 => repeat (first | exact (Kd.C_below HR2.out HB.out) | (with_reducible refine Kd.C_alloc ?_ _) | (with_reducible refine Kd.C_drewN ?_ _) | (with_reducible refine Kd.C_drew ?_))); (case side2 => exact HC2.out); rintro e w11 ⟨rfl, hb⟩; refine ⟨_, rfl, ?_⟩; have n0_ := Aside0.mk (below_step (by repeat (first | (with_reducible first | exact HB.out | apply below_alloc | apply pw_below_drewN | apply below_drew1) | exact HB.out)) hb); clear HB; have HB := n0_; clear n0_; (try clear hb); (try clear hb2); (try clear hk); (try clear hi)))
       go_ret2
       exact ⟨by first | rfl | (simp [errW_none, errW_some] <;> rfl) | (simp [*, errW_none, errW_some] <;> rfl), by repeat (first | (with_reducible first | exact HB.out | apply below_alloc | apply pw_below_drewN | apply below_drew1) | exact HB.out)⟩
     ·rw [if_neg c7] at H
      have c7b0 : decide (x8_1 < (l2.length : Int)) = false := decide_eq_false c7
      clear c7
      simp only [Option.some.injEq, Prod.mk.injEq] at H
      obtain ⟨rfl, rfl⟩ := H
      go_wp2
      go_ret2
      exact ⟨by first | rfl | (simp [errW_none, errW_some] <;> rfl) | (simp [*, errW_none, errW_some] <;> rfl), by repeat (first | (with_reducible first | exact HB.out | apply below_alloc | apply pw_below_drewN | apply below_drew1) | exact HB.out)⟩
 ·replace c5 := Bool.eq_false_iff.mpr c5
  subst c5
  have H1 : (some (0, 70)) = some (r1, r2) := by rw [if_neg (show ¬ (false = true) by decide)] at H; exact H
  clear H
  have H := H1
  clear H1
  simp only [Option.some.injEq, Prod.mk.injEq] at H
  obtain ⟨rfl, rfl⟩ := H
  go_enter Try.func37, Try.ntmps37
  go_wp2_with (first | ((with_reducible refine gate_callee (f := 64) rfl ?_); refine goesL_ (some 10) rfl rfl Try.func64 (by kernel_rfl) rfl #[.slice A0 l0.length c0] rfl (by (try simp only [List.map_toArray, List.map_cons, List.map_nil]); first | done | rfl | (simp only [List.length_drop, List.length_take]; rfl)) ?_; (with_reducible refine (quoinref07_Kinds.calls k _ _ l0 false _ ?side1 ?side2 A4.out).mono ?_); (case side1 => repeat (first | exact HR0.out | (with_reducible refine Kd.C_alloc ?_ _) | (with_reducible refine Kd.C_drewN ?_ _) | (with_reducible refine Kd.C_drew ?_))); (case side2 => exact HC0.out); rintro e w' ⟨rfl, ⟨nd, rfl⟩⟩; refine ⟨_, rfl, ?_⟩))
  go_ret2
  exact ⟨by first | rfl | (simp [errW_none, errW_some] <;> rfl) | (simp [*, errW_none, errW_some] <;> rfl), by repeat (first | (with_reducible first | exact HB.out | apply below_alloc | apply pw_below_drewN | apply below_drew1) | exact HB.out)⟩
end Go.Proofs.Ytcajiapjdlphmaa.H
