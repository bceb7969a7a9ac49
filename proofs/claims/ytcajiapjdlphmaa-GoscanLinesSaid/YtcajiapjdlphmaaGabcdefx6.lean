import Derived.Test.YtcajiapjdlphmaaGPre
import Derived.Test.YtcajiapjdlphmaaGabcdefx0
import Derived.Test.YtcajiapjdlphmaaGabcdefx5
namespace Go.Proofs.Ytcajiapjdlphmaa.H
open Go.RowKit Go.Proofs.YtcajiapjdlphmaaW.PrintWords Go.Proofs.YtcajiapjdlphmaaW.PrintLast Go.Proofs.YtcajiapjdlphmaaW.PrintMore
attribute [local go_sem] max2_int min2_int max_two min_two max_three min_three max_four min_four
set_option linter.unusedVariables false
set_option linter.unusedSimpArgs false
def goscan_written.l0 : Nat → ByteArray → Int → Int → Int → List (S69) → Int → Int → Option (Int × Int)
 | 0, _, _, _, _, _, _, _ => none
 | k + 1, x0, x1, x6, x7, x11, x12, x13 => if x13 < x12 then (if 0 ≤ x13 then (if x13 < (x11.length : Int) then (if (((rd_T69 x11 x13).f1).size : Int) > (wrap64 (x7 - x1)) then (if 0 ≤ x1 then (if x1 ≤ (x0.size : Int) then ((strings_HasPrefix.f (x0.extract (x1 : Int).toNat x0.size) ((rd_T69 x11 x13).f1)).bind fun t222 => (if t222 = true then (goscan_written.l0 k x0 x1 (wrap64 (8 + x13)) (wrap64 (x1 + (((rd_T69 x11 x13).f1).size : Int))) x11 x12 (wrap64 (x13 + 1))) else (goscan_written.l0 k x0 x1 x6 x7 x11 x12 (wrap64 (x13 + 1))))) else (none)) else (none)) else (goscan_written.l0 k x0 x1 x6 x7 x11 x12 (wrap64 (x13 + 1)))) else (none)) else (none)) else (some (x6, x7))
def goscan_written.f (k : Nat) (a0 : ByteArray) (a1 : Int) : Option (Int × Int) := (goscan_operators.f).bind fun t217 => (goscan_written.l0 k a0 a1 0 a1 t217 (t217.length : Int) 0)
theorem goscan_written.mono_l : ∀ k, (∀ y0 y1 y2 y3 y4 y5 y6, LeO (goscan_written.l0 k y0 y1 y2 y3 y4 y5 y6) (goscan_written.l0 (k + 1) y0 y1 y2 y3 y4 y5 y6))
 | 0 => fun _ _ _ _ _ _ _ r h => by simp [goscan_written.l0] at h
 | k + 1 => by
  have ih0 := goscan_written.mono_l k
  ·intro y0 y1 y2 y3 y4 y5 y6
   unfold goscan_written.l0
   repeat' first
   | (with_reducible exact ih0 _ _ _ _ _ _ _)
   | (with_reducible exact LeO.refl _)
   | (with_reducible exact LeO.none _)
   | (with_reducible refine LeO.ite ?_ ?_)
   | (with_reducible refine LeO.bind ?_ (fun _ => ?_))
   | exact ih0 _ _ _ _ _ _ _
   | exact LeO.none _
   | refine LeO.ite ?_ ?_
   | refine LeO.bind ?_ (fun _ => ?_)
theorem goscan_written.mono : ∀ a0 a1 k, LeO (goscan_written.f k a0 a1) (goscan_written.f (k + 1) a0 a1) := by
 intro a0 a1 k
 have ih0 := goscan_written.mono_l k
 unfold goscan_written.f
 repeat' first
   | (with_reducible exact ih0 _ _ _ _ _ _ _)
   | (with_reducible exact LeO.refl _)
   | (with_reducible exact LeO.none _)
   | (with_reducible refine LeO.ite ?_ ?_)
   | (with_reducible refine LeO.bind ?_ (fun _ => ?_))
   | exact ih0 _ _ _ _ _ _ _
   | exact LeO.none _
   | refine LeO.ite ?_ ?_
   | refine LeO.bind ?_ (fun _ => ?_)
set_option maxHeartbeats 8000000 in
set_option maxRecDepth 100000 in
theorem goscan_written.calls (k : Nat) (a0 : ByteArray) (a1 : Int) (r1 : Int) (r2 : Int) (w : World) (h : goscan_written.f k a0 a1 = some (r1, r2)) :
  Calls Try.prog 48 #[.string a0, .int .i64 a1] w fun e w' => e = .returned (.tuple #[.int .i64 r1, .int .i64 r2]) ∧ Below w.heap.size w w' := by
 have hu69 := Try.underlying69
 have HB := Aside0.mk (Below.refl w.heap.size w)
 have H : ((goscan_operators.f).bind fun t217 => (goscan_written.l0 k a0 a1 0 a1 t217 (t217.length : Int) 0)) = some (r1, r2) := h
 clear h
 replace H := Option.bind_eq_some_iff.mp H
 obtain ⟨t217, A30, H⟩ := H
 replace H : (goscan_written.l0 k a0 a1 0 a1 t217 (t217.length : Int) 0) = some (r1, r2) := H
 have A3 := Aside0.mk A30
 clear A30
 have H' := Aside0.mk H
 clear H
 go_enter Try.func48, Try.ntmps48
 go_wp2_with (first | (go_at_call 44; (with_reducible refine (goscan_operators.calls  t217 _ A3.out).mono ?_); rintro e w4 ⟨v218, rfl, ho0, hb⟩; have n0_ := Aside0.mk (Kd.V_lower (Kd.V_mono (ok' := fun k_ => True) ho0 (fun k_ hk_ => trivial)) (below_size (by repeat (first | (with_reducible first | exact HB.out | apply below_alloc | apply pw_below_drewN | apply below_drew1) | exact HB.out)))); have n1_ := Aside0.mk (below_step (by repeat (first | (with_reducible first | exact HB.out | apply below_alloc | apply pw_below_drewN | apply below_drew1) | exact HB.out)) hb); clear HB; have HO219 := n0_; have HB := n1_; clear n0_ n1_; (try clear hb); (try clear hb2); (try clear hk); (try clear hi); (try clear ho0); obtain ⟨Ao5, co5, eo5⟩ := Kd.V_slice HO219.out; subst eo5))
 repeat (go_quiet (first | (go_at_call 44; (with_reducible refine (goscan_operators.calls  t217 _ A3.out).mono ?_); rintro e w4 ⟨v218, rfl, ho0, hb⟩; have n0_ := Aside0.mk (Kd.V_lower (Kd.V_mono (ok' := fun k_ => True) ho0 (fun k_ hk_ => trivial)) (below_size (by repeat (first | (with_reducible first | exact HB.out | apply below_alloc | apply pw_below_drewN | apply below_drew1) | exact HB.out)))); have n1_ := Aside0.mk (below_step (by repeat (first | (with_reducible first | exact HB.out | apply below_alloc | apply pw_below_drewN | apply below_drew1) | exact HB.out)) hb); clear HB; have HO219 := n0_; have HB := n1_; clear n0_ n1_; (try clear hb); (try clear hb2); (try clear hk); (try clear hi); (try clear ho0); obtain ⟨Ao5, co5, eo5⟩ := Kd.V_slice HO219.out; subst eo5)); try go_wp2_with (first | (go_at_call 44; (with_reducible refine (goscan_operators.calls  t217 _ A3.out).mono ?_); rintro e w4 ⟨v218, rfl, ho0, hb⟩; have n0_ := Aside0.mk (Kd.V_lower (Kd.V_mono (ok' := fun k_ => True) ho0 (fun k_ hk_ => trivial)) (below_size (by repeat (first | (with_reducible first | exact HB.out | apply below_alloc | apply pw_below_drewN | apply below_drew1) | exact HB.out)))); have n1_ := Aside0.mk (below_step (by repeat (first | (with_reducible first | exact HB.out | apply below_alloc | apply pw_below_drewN | apply below_drew1) | exact HB.out)) hb); clear HB; have HO219 := n0_; have HB := n1_; clear n0_ n1_; (try clear hb); (try clear hb2); (try clear hk); (try clear hi); (try clear ho0); obtain ⟨Ao5, co5, eo5⟩ := Kd.V_slice HO219.out; subst eo5)))
 go_loopg [6, 7, 13] k (fun kq v6 v7 v13 w' => ∃ (x6_1 : Int) (x7_1 : Int) (x13_1 : Int), v6 = .int .i64 x6_1 ∧ v7 = .int .i64 x7_1 ∧ v13 = .int .i64 x13_1 ∧ Aside0 (goscan_written.l0 kq a0 a1 x6_1 x7_1 t217 (t217.length : Int) x13_1 = some (r1, r2)) ∧ Aside0 (kq ≤ k) ∧ Aside0 (Kd.V k69 69 w' w.heap.size (fun _ => True) (.slice Ao5 t217.length co5) t217) ∧ Aside0 (Below w.heap.size w w'))
 case atStart => exact ⟨(0), (a1), (0), (by first | rfl | (simp; done) | (simp [*]; done) | (simp <;> omega) | rw [u32_tmod]), (by first | rfl | (simp; done) | (simp [*]; done) | (simp <;> omega) | rw [u32_tmod]), (by first | rfl | (simp; done) | (simp [*]; done) | (simp <;> omega) | rw [u32_tmod]), H', ⟨Nat.le_refl _⟩, ⟨by (with_reducible repeat (first | apply Kd.V_alloc | apply Kd.V_drewN | apply Kd.V_drew)); exact HO219.out⟩, ⟨by repeat (first | (with_reducible first | exact HB.out | apply below_alloc | apply pw_below_drewN | apply below_drew1) | exact HB.out)⟩⟩
 case round =>
  clear H'
  try clear p2
  try clear c4
  obtain ⟨x6_1, x7_1, x13_1, rfl, rfl, rfl, HA, HK1, HO_11, HB⟩ := hrel
  cases gk with
  | zero => exact absurd HA.out (by simp [goscan_written.l0])
  | succ k1 =>
   have H := HA.out
   clear HA
   simp only [goscan_written.l0] at H
   by_cases c6 : x13_1 < (t217.length : Int)
   ·rw [if_pos c6] at H
    have c6b0 : decide (x13_1 < (t217.length : Int)) = true := decide_eq_true c6
    clear c6
    by_cases c7 : 0 ≤ x13_1
    ·rw [if_pos c7] at H
     have c7b0 : decide (0 ≤ x13_1) = true := decide_eq_true c7
     clear c7
     by_cases c8 : x13_1 < (t217.length : Int)
     ·rw [if_pos c8] at H
      have c8b0 : decide (x13_1 < (t217.length : Int)) = true := decide_eq_true c8
      clear c8
      by_cases c9 : (((rd_T69 t217 x13_1).f1).size : Int) > (wrap64 (x7_1 - a1))
      ·rw [if_pos c9] at H
       have c9b0 : decide ((wrap64 (x7_1 - a1)) < (((rd_T69 t217 x13_1).f1).size : Int)) = true := decide_eq_true c9
       clear c9
       by_cases c10 : 0 ≤ a1
       ·rw [if_pos c10] at H
        have c10b0 := eq_true c10
        have c10b1 : decide (0 ≤ a1) = true := decide_eq_true c10
        clear c10
        by_cases c11 : a1 ≤ (a0.size : Int)
        ·rw [if_pos c11] at H
         have c11b0 := eq_true c11
         have c11b1 : decide (a1 ≤ (a0.size : Int)) = true := decide_eq_true c11
         clear c11
         replace H := Option.bind_eq_some_iff.mp H
         obtain ⟨t222, A120, H⟩ := H
         replace H : (if t222 = true then (goscan_written.l0 k1 a0 a1 (wrap64 (8 + x13_1)) (wrap64 (a1 + (((rd_T69 t217 x13_1).f1).size : Int))) t217 (t217.length : Int) (wrap64 (x13_1 + 1))) else (goscan_written.l0 k1 a0 a1 x6_1 x7_1 t217 (t217.length : Int) (wrap64 (x13_1 + 1)))) = some (r1, r2) := H
         have A12 := Aside0.mk A120
         clear A120
         by_cases c13 : t222 = true
         ·subst c13
          have H1 : (goscan_written.l0 k1 a0 a1 (wrap64 (8 + x13_1)) (wrap64 (a1 + (((rd_T69 t217 x13_1).f1).size : Int))) t217 (t217.length : Int) (wrap64 (x13_1 + 1))) = some (r1, r2) := by rw [if_pos rfl] at H; exact H
          clear H
          have H := H1
          clear H1
          have H' := Aside0.mk H
          clear H
          have p220 : 0 ≤ (x13_1 : Int) := of_decide_eq_true (by first | (with_reducible assumption) | assumption)
          have q220 : x13_1 < (t217.length : Int) := of_decide_eq_true (by first | (with_reducible assumption) | assumption)
          obtain ⟨ad220, e220, hx220_0, hx220_1⟩ := at_T69 (Kd.V_reads' HO_11.out).2.2 x13_1 p220 q220
          cases e220
          replace p220 := eq_true p220
          replace q220 := eq_true q220
          go_wp2_with (first | ((with_reducible refine gate_dst (N := 9) rfl ?_); refine box_event ?hg (N := 9) ?hd (cs := #[.string (⟨#[]⟩ : ByteArray), .string (⟨#[]⟩ : ByteArray)]) (t := 69) ?hr ?_; (case hd => rfl); (case hg => rfl); (case hr => first | (go_simp; done) | (go_simp; rfl)); intro gb221 hg w14 hbox hb; have n0_ := Aside0.mk (Kd.V_below (Kd.V_elderB (by (with_reducible repeat (first | apply Kd.V_alloc | apply Kd.V_drewN | apply Kd.V_drew)); exact HO_11.out) gb221 (Nat.le_of_eq hg.symm)) hb); have n1_ := Aside0.mk (below_step (by repeat (first | (with_reducible first | exact HB.out | apply below_alloc | apply pw_below_drewN | apply below_drew1) | exact HB.out)) hb); have n2_ := Aside0.mk (hbox); have n3_ := Aside0.mk ((by rw [hg]; exact (below_size (by repeat (first | (with_reducible first | exact HB.out | apply below_alloc | apply pw_below_drewN | apply below_drew1) | exact HB.out))) : w.heap.size ≤ gb221)); have n4_ := Aside0.mk ((by rw [hg]; exact (below_size (by repeat (first | (with_reducible first | exact HB.out | apply below_alloc | apply pw_below_drewN | apply below_drew1) | exact HB.out))) : w.heap.size ≤ gb221)); clear HO_11; clear HB; have HO_11 := n0_; have HB := n1_; have BK221 := n2_; have GW221 := n3_; have GE221 := n4_; clear n0_ n1_ n2_ n3_ n4_; clear hb hbox hg; have hcz15_0 : w14.cell? ⟨gb221, 0, none⟩ = some (.string (⟨#[]⟩ : ByteArray)) := (blk_cell BK221.out 0).trans rfl; have hcz15_1 : w14.cell? ⟨gb221, 1, none⟩ = some (.string (⟨#[]⟩ : ByteArray)) := (blk_cell BK221.out 1).trans rfl; have hfz15_0 := blk_frozen BK221.out 0; have hfz15_1 := blk_frozen BK221.out 1) | (go_at_call 28; (with_reducible refine (strings_HasPrefix.calls (a0.extract (a1 : Int).toNat a0.size) ((rd_T69 t217 x13_1).f1) true _ A12.out).mono ?_); rintro e w' ⟨rfl, ⟨nd, rfl⟩⟩; (try first | exact ⟨rfl, _, World.drewN_drewN _ _ _⟩ | exact ⟨rfl, _, Eq.trans (World.drewN_drewN _ _ _) (congrArg (World.drewN _) (Nat.add_assoc _ _ _))⟩)))
          repeat (go_quiet (first | ((with_reducible refine gate_dst (N := 9) rfl ?_); refine box_event ?hg (N := 9) ?hd (cs := #[.string (⟨#[]⟩ : ByteArray), .string (⟨#[]⟩ : ByteArray)]) (t := 69) ?hr ?_; (case hd => rfl); (case hg => rfl); (case hr => first | (go_simp; done) | (go_simp; rfl)); intro gb221 hg w14 hbox hb; have n0_ := Aside0.mk (Kd.V_below (Kd.V_elderB (by (with_reducible repeat (first | apply Kd.V_alloc | apply Kd.V_drewN | apply Kd.V_drew)); exact HO_11.out) gb221 (Nat.le_of_eq hg.symm)) hb); have n1_ := Aside0.mk (below_step (by repeat (first | (with_reducible first | exact HB.out | apply below_alloc | apply pw_below_drewN | apply below_drew1) | exact HB.out)) hb); have n2_ := Aside0.mk (hbox); have n3_ := Aside0.mk ((by rw [hg]; exact (below_size (by repeat (first | (with_reducible first | exact HB.out | apply below_alloc | apply pw_below_drewN | apply below_drew1) | exact HB.out))) : w.heap.size ≤ gb221)); have n4_ := Aside0.mk ((by rw [hg]; exact (below_size (by repeat (first | (with_reducible first | exact HB.out | apply below_alloc | apply pw_below_drewN | apply below_drew1) | exact HB.out))) : w.heap.size ≤ gb221)); clear HO_11; clear HB; have HO_11 := n0_; have HB := n1_; have BK221 := n2_; have GW221 := n3_; have GE221 := n4_; clear n0_ n1_ n2_ n3_ n4_; clear hb hbox hg; have hcz15_0 : w14.cell? ⟨gb221, 0, none⟩ = some (.string (⟨#[]⟩ : ByteArray)) := (blk_cell BK221.out 0).trans rfl; have hcz15_1 : w14.cell? ⟨gb221, 1, none⟩ = some (.string (⟨#[]⟩ : ByteArray)) := (blk_cell BK221.out 1).trans rfl; have hfz15_0 := blk_frozen BK221.out 0; have hfz15_1 := blk_frozen BK221.out 1) | (go_at_call 28; (with_reducible refine (strings_HasPrefix.calls (a0.extract (a1 : Int).toNat a0.size) ((rd_T69 t217 x13_1).f1) true _ A12.out).mono ?_); rintro e w' ⟨rfl, ⟨nd, rfl⟩⟩; (try first | exact ⟨rfl, _, World.drewN_drewN _ _ _⟩ | exact ⟨rfl, _, Eq.trans (World.drewN_drewN _ _ _) (congrArg (World.drewN _) (Nat.add_assoc _ _ _))⟩))); try go_wp2_with (first | ((with_reducible refine gate_dst (N := 9) rfl ?_); refine box_event ?hg (N := 9) ?hd (cs := #[.string (⟨#[]⟩ : ByteArray), .string (⟨#[]⟩ : ByteArray)]) (t := 69) ?hr ?_; (case hd => rfl); (case hg => rfl); (case hr => first | (go_simp; done) | (go_simp; rfl)); intro gb221 hg w14 hbox hb; have n0_ := Aside0.mk (Kd.V_below (Kd.V_elderB (by (with_reducible repeat (first | apply Kd.V_alloc | apply Kd.V_drewN | apply Kd.V_drew)); exact HO_11.out) gb221 (Nat.le_of_eq hg.symm)) hb); have n1_ := Aside0.mk (below_step (by repeat (first | (with_reducible first | exact HB.out | apply below_alloc | apply pw_below_drewN | apply below_drew1) | exact HB.out)) hb); have n2_ := Aside0.mk (hbox); have n3_ := Aside0.mk ((by rw [hg]; exact (below_size (by repeat (first | (with_reducible first | exact HB.out | apply below_alloc | apply pw_below_drewN | apply below_drew1) | exact HB.out))) : w.heap.size ≤ gb221)); have n4_ := Aside0.mk ((by rw [hg]; exact (below_size (by repeat (first | (with_reducible first | exact HB.out | apply below_alloc | apply pw_below_drewN | apply below_drew1) | exact HB.out))) : w.heap.size ≤ gb221)); clear HO_11; clear HB; have HO_11 := n0_; have HB := n1_; have BK221 := n2_; have GW221 := n3_; have GE221 := n4_; clear n0_ n1_ n2_ n3_ n4_; clear hb hbox hg; have hcz15_0 : w14.cell? ⟨gb221, 0, none⟩ = some (.string (⟨#[]⟩ : ByteArray)) := (blk_cell BK221.out 0).trans rfl; have hcz15_1 : w14.cell? ⟨gb221, 1, none⟩ = some (.string (⟨#[]⟩ : ByteArray)) := (blk_cell BK221.out 1).trans rfl; have hfz15_0 := blk_frozen BK221.out 0; have hfz15_1 := blk_frozen BK221.out 1) | (go_at_call 28; (with_reducible refine (strings_HasPrefix.calls (a0.extract (a1 : Int).toNat a0.size) ((rd_T69 t217 x13_1).f1) true _ A12.out).mono ?_); rintro e w' ⟨rfl, ⟨nd, rfl⟩⟩; (try first | exact ⟨rfl, _, World.drewN_drewN _ _ _⟩ | exact ⟨rfl, _, Eq.trans (World.drewN_drewN _ _ _) (congrArg (World.drewN _) (Nat.add_assoc _ _ _))⟩))))
          go_roundg k1
          case measure => have := HK1.out; omega
          case rel => exact ⟨(wrap64 (8 + x13_1)), (wrap64 (a1 + (((rd_T69 t217 x13_1).f1).size : Int))), (wrap64 (x13_1 + 1)), (by first | rfl | (simp; done) | (simp [*]; done) | (simp <;> omega) | rw [u32_tmod]), (by first | rfl | (simp; done) | (simp [*]; done) | (simp <;> omega) | rw [u32_tmod]), (by first | rfl | (simp; done) | (simp [*]; done) | (simp <;> omega) | rw [u32_tmod]), H', ⟨by have := HK1.out; omega⟩, ⟨by (with_reducible repeat (first | apply Kd.V_alloc | apply Kd.V_drewN | apply Kd.V_drew)); exact Kd.V_mono (Kd.V_far (p := ⟨gb221, 1, none⟩) (Kd.V_far (p := ⟨gb221, 0, none⟩) (Kd.V_mono HO_11.out (fun k_ hk => (⟨hk, hk.2⟩ : _ ∧ k_ ≠ gb221))) (fun _ hk => hk.2) (.string ((rd_T69 t217 x13_1).f0))) (fun _ hk => hk.2) (.string ((rd_T69 t217 x13_1).f1))) (fun _ hk => trivial)⟩, ⟨by repeat (first | (with_reducible first | exact HB.out | apply below_alloc | apply pw_below_drewN | apply below_drew1 | refine below_set ?_ GE221.out) | exact HB.out)⟩⟩
         ·replace c13 := Bool.eq_false_iff.mpr c13
          subst c13
          have H1 : (goscan_written.l0 k1 a0 a1 x6_1 x7_1 t217 (t217.length : Int) (wrap64 (x13_1 + 1))) = some (r1, r2) := by rw [if_neg (show ¬ (false = true) by decide)] at H; exact H
          clear H
          have H := H1
          clear H1
          have H' := Aside0.mk H
          clear H
          have p220 : 0 ≤ (x13_1 : Int) := of_decide_eq_true (by first | (with_reducible assumption) | assumption)
          have q220 : x13_1 < (t217.length : Int) := of_decide_eq_true (by first | (with_reducible assumption) | assumption)
          obtain ⟨ad220, e220, hx220_0, hx220_1⟩ := at_T69 (Kd.V_reads' HO_11.out).2.2 x13_1 p220 q220
          cases e220
          replace p220 := eq_true p220
          replace q220 := eq_true q220
          go_wp2_with (first | ((with_reducible refine gate_dst (N := 9) rfl ?_); refine box_event ?hg (N := 9) ?hd (cs := #[.string (⟨#[]⟩ : ByteArray), .string (⟨#[]⟩ : ByteArray)]) (t := 69) ?hr ?_; (case hd => rfl); (case hg => rfl); (case hr => first | (go_simp; done) | (go_simp; rfl)); intro gb221 hg w16 hbox hb; have n0_ := Aside0.mk (Kd.V_below (Kd.V_elderB (by (with_reducible repeat (first | apply Kd.V_alloc | apply Kd.V_drewN | apply Kd.V_drew)); exact HO_11.out) gb221 (Nat.le_of_eq hg.symm)) hb); have n1_ := Aside0.mk (below_step (by repeat (first | (with_reducible first | exact HB.out | apply below_alloc | apply pw_below_drewN | apply below_drew1) | exact HB.out)) hb); have n2_ := Aside0.mk (hbox); have n3_ := Aside0.mk ((by rw [hg]; exact (below_size (by repeat (first | (with_reducible first | exact HB.out | apply below_alloc | apply pw_below_drewN | apply below_drew1) | exact HB.out))) : w.heap.size ≤ gb221)); have n4_ := Aside0.mk ((by rw [hg]; exact (below_size (by repeat (first | (with_reducible first | exact HB.out | apply below_alloc | apply pw_below_drewN | apply below_drew1) | exact HB.out))) : w.heap.size ≤ gb221)); clear HO_11; clear HB; have HO_11 := n0_; have HB := n1_; have BK221 := n2_; have GW221 := n3_; have GE221 := n4_; clear n0_ n1_ n2_ n3_ n4_; clear hb hbox hg; have hcz17_0 : w16.cell? ⟨gb221, 0, none⟩ = some (.string (⟨#[]⟩ : ByteArray)) := (blk_cell BK221.out 0).trans rfl; have hcz17_1 : w16.cell? ⟨gb221, 1, none⟩ = some (.string (⟨#[]⟩ : ByteArray)) := (blk_cell BK221.out 1).trans rfl; have hfz17_0 := blk_frozen BK221.out 0; have hfz17_1 := blk_frozen BK221.out 1) | (go_at_call 28; (with_reducible refine (strings_HasPrefix.calls (a0.extract (a1 : Int).toNat a0.size) ((rd_T69 t217 x13_1).f1) false _ A12.out).mono ?_); rintro e w' ⟨rfl, ⟨nd, rfl⟩⟩; (try first | exact ⟨rfl, _, World.drewN_drewN _ _ _⟩ | exact ⟨rfl, _, Eq.trans (World.drewN_drewN _ _ _) (congrArg (World.drewN _) (Nat.add_assoc _ _ _))⟩)))
          repeat (go_quiet (first | ((with_reducible refine gate_dst (N := 9) rfl ?_); refine box_event ?hg (N := 9) ?hd (cs := #[.string (⟨#[]⟩ : ByteArray), .string (⟨#[]⟩ : ByteArray)]) (t := 69) ?hr ?_; (case hd => rfl); (case hg => rfl); (case hr => first | (go_simp; done) | (go_simp; rfl)); intro gb221 hg w16 hbox hb; have n0_ := Aside0.mk (Kd.V_below (Kd.V_elderB (by (with_reducible repeat (first | apply Kd.V_alloc | apply Kd.V_drewN | apply Kd.V_drew)); exact HO_11.out) gb221 (Nat.le_of_eq hg.symm)) hb); have n1_ := Aside0.mk (below_step (by repeat (first | (with_reducible first | exact HB.out | apply below_alloc | apply pw_below_drewN | apply below_drew1) | exact HB.out)) hb); have n2_ := Aside0.mk (hbox); have n3_ := Aside0.mk ((by rw [hg]; exact (below_size (by repeat (first | (with_reducible first | exact HB.out | apply below_alloc | apply pw_below_drewN | apply below_drew1) | exact HB.out))) : w.heap.size ≤ gb221)); have n4_ := Aside0.mk ((by rw [hg]; exact (below_size (by repeat (first | (with_reducible first | exact HB.out | apply below_alloc | apply pw_below_drewN | apply below_drew1) | exact HB.out))) : w.heap.size ≤ gb221)); clear HO_11; clear HB; have HO_11 := n0_; have HB := n1_; have BK221 := n2_; have GW221 := n3_; have GE221 := n4_; clear n0_ n1_ n2_ n3_ n4_; clear hb hbox hg; have hcz17_0 : w16.cell? ⟨gb221, 0, none⟩ = some (.string (⟨#[]⟩ : ByteArray)) := (blk_cell BK221.out 0).trans rfl; have hcz17_1 : w16.cell? ⟨gb221, 1, none⟩ = some (.string (⟨#[]⟩ : ByteArray)) := (blk_cell BK221.out 1).trans rfl; have hfz17_0 := blk_frozen BK221.out 0; have hfz17_1 := blk_frozen BK221.out 1) | (go_at_call 28; (with_reducible refine (strings_HasPrefix.calls (a0.extract (a1 : Int).toNat a0.size) ((rd_T69 t217 x13_1).f1) false _ A12.out).mono ?_); rintro e w' ⟨rfl, ⟨nd, rfl⟩⟩; (try first | exact ⟨rfl, _, World.drewN_drewN _ _ _⟩ | exact ⟨rfl, _, Eq.trans (World.drewN_drewN _ _ _) (congrArg (World.drewN _) (Nat.add_assoc _ _ _))⟩))); try go_wp2_with (first | ((with_reducible refine gate_dst (N := 9) rfl ?_); refine box_event ?hg (N := 9) ?hd (cs := #[.string (⟨#[]⟩ : ByteArray), .string (⟨#[]⟩ : ByteArray)]) (t := 69) ?hr ?_; (case hd => rfl); (case hg => rfl); (case hr => first | (go_simp; done) | (go_simp; rfl)); intro gb221 hg w16 hbox hb; have n0_ := Aside0.mk (Kd.V_below (Kd.V_elderB (by (with_reducible repeat (first | apply Kd.V_alloc | apply Kd.V_drewN | apply Kd.V_drew)); exact HO_11.out) gb221 (Nat.le_of_eq hg.symm)) hb); have n1_ := Aside0.mk (below_step (by repeat (first | (with_reducible first | exact HB.out | apply below_alloc | apply pw_below_drewN | apply below_drew1) | exact HB.out)) hb); have n2_ := Aside0.mk (hbox); have n3_ := Aside0.mk ((by rw [hg]; exact (below_size (by repeat (first | (with_reducible first | exact HB.out | apply below_alloc | apply pw_below_drewN | apply below_drew1) | exact HB.out))) : w.heap.size ≤ gb221)); have n4_ := Aside0.mk ((by rw [hg]; exact (below_size (by repeat (first | (with_reducible first | exact HB.out | apply below_alloc | apply pw_below_drewN | apply below_drew1) | exact HB.out))) : w.heap.size ≤ gb221)); clear HO_11; clear HB; have HO_11 := n0_; have HB := n1_; have BK221 := n2_; have GW221 := n3_; have GE221 := n4_; clear n0_ n1_ n2_ n3_ n4_; clear hb hbox hg; have hcz17_0 : w16.cell? ⟨gb221, 0, none⟩ = some (.string (⟨#[]⟩ : ByteArray)) := (blk_cell BK221.out 0).trans rfl; have hcz17_1 : w16.cell? ⟨gb221, 1, none⟩ = some (.string (⟨#[]⟩ : ByteArray)) := (blk_cell BK221.out 1).trans rfl; have hfz17_0 := blk_frozen BK221.out 0; have hfz17_1 := blk_frozen BK221.out 1) | (go_at_call 28; (with_reducible refine (strings_HasPrefix.calls (a0.extract (a1 : Int).toNat a0.size) ((rd_T69 t217 x13_1).f1) false _ A12.out).mono ?_); rintro e w' ⟨rfl, ⟨nd, rfl⟩⟩; (try first | exact ⟨rfl, _, World.drewN_drewN _ _ _⟩ | exact ⟨rfl, _, Eq.trans (World.drewN_drewN _ _ _) (congrArg (World.drewN _) (Nat.add_assoc _ _ _))⟩))))
          go_roundg k1
          case measure => have := HK1.out; omega
          case rel => exact ⟨(x6_1), (x7_1), (wrap64 (x13_1 + 1)), (by first | rfl | (simp; done) | (simp [*]; done) | (simp <;> omega) | rw [u32_tmod]), (by first | rfl | (simp; done) | (simp [*]; done) | (simp <;> omega) | rw [u32_tmod]), (by first | rfl | (simp; done) | (simp [*]; done) | (simp <;> omega) | rw [u32_tmod]), H', ⟨by have := HK1.out; omega⟩, ⟨by (with_reducible repeat (first | apply Kd.V_alloc | apply Kd.V_drewN | apply Kd.V_drew)); exact Kd.V_mono (Kd.V_far (p := ⟨gb221, 1, none⟩) (Kd.V_far (p := ⟨gb221, 0, none⟩) (Kd.V_mono HO_11.out (fun k_ hk => (⟨hk, hk.2⟩ : _ ∧ k_ ≠ gb221))) (fun _ hk => hk.2) (.string ((rd_T69 t217 x13_1).f0))) (fun _ hk => hk.2) (.string ((rd_T69 t217 x13_1).f1))) (fun _ hk => trivial)⟩, ⟨by repeat (first | (with_reducible first | exact HB.out | apply below_alloc | apply pw_below_drewN | apply below_drew1 | refine below_set ?_ GE221.out) | exact HB.out)⟩⟩
        ·rw [if_neg c11] at H
         exact absurd H (by simp)
       ·rw [if_neg c10] at H
        exact absurd H (by simp)
      ·rw [if_neg c9] at H
       have c9b0 : decide ((wrap64 (x7_1 - a1)) < (((rd_T69 t217 x13_1).f1).size : Int)) = false := decide_eq_false c9
       clear c9
       have H' := Aside0.mk H
       clear H
       have p220 : 0 ≤ (x13_1 : Int) := of_decide_eq_true (by first | (with_reducible assumption) | assumption)
       have q220 : x13_1 < (t217.length : Int) := of_decide_eq_true (by first | (with_reducible assumption) | assumption)
       obtain ⟨ad220, e220, hx220_0, hx220_1⟩ := at_T69 (Kd.V_reads' HO_11.out).2.2 x13_1 p220 q220
       cases e220
       replace p220 := eq_true p220
       replace q220 := eq_true q220
       go_wp2_with (first | ((with_reducible refine gate_dst (N := 9) rfl ?_); refine box_event ?hg (N := 9) ?hd (cs := #[.string (⟨#[]⟩ : ByteArray), .string (⟨#[]⟩ : ByteArray)]) (t := 69) ?hr ?_; (case hd => rfl); (case hg => rfl); (case hr => first | (go_simp; done) | (go_simp; rfl)); intro gb221 hg w18 hbox hb; have n0_ := Aside0.mk (Kd.V_below (Kd.V_elderB (by (with_reducible repeat (first | apply Kd.V_alloc | apply Kd.V_drewN | apply Kd.V_drew)); exact HO_11.out) gb221 (Nat.le_of_eq hg.symm)) hb); have n1_ := Aside0.mk (below_step (by repeat (first | (with_reducible first | exact HB.out | apply below_alloc | apply pw_below_drewN | apply below_drew1) | exact HB.out)) hb); have n2_ := Aside0.mk (hbox); have n3_ := Aside0.mk ((by rw [hg]; exact (below_size (by repeat (first | (with_reducible first | exact HB.out | apply below_alloc | apply pw_below_drewN | apply below_drew1) | exact HB.out))) : w.heap.size ≤ gb221)); have n4_ := Aside0.mk ((by rw [hg]; exact (below_size (by repeat (first | (with_reducible first | exact HB.out | apply below_alloc | apply pw_below_drewN | apply below_drew1) | exact HB.out))) : w.heap.size ≤ gb221)); clear HO_11; clear HB; have HO_11 := n0_; have HB := n1_; have BK221 := n2_; have GW221 := n3_; have GE221 := n4_; clear n0_ n1_ n2_ n3_ n4_; clear hb hbox hg; have hcz19_0 : w18.cell? ⟨gb221, 0, none⟩ = some (.string (⟨#[]⟩ : ByteArray)) := (blk_cell BK221.out 0).trans rfl; have hcz19_1 : w18.cell? ⟨gb221, 1, none⟩ = some (.string (⟨#[]⟩ : ByteArray)) := (blk_cell BK221.out 1).trans rfl; have hfz19_0 := blk_frozen BK221.out 0; have hfz19_1 := blk_frozen BK221.out 1))
       repeat (go_quiet (first | ((with_reducible refine gate_dst (N := 9) rfl ?_); refine box_event ?hg (N := 9) ?hd (cs := #[.string (⟨#[]⟩ : ByteArray), .string (⟨#[]⟩ : ByteArray)]) (t := 69) ?hr ?_; (case hd => rfl); (case hg => rfl); (case hr => first | (go_simp; done) | (go_simp; rfl)); intro gb221 hg w18 hbox hb; have n0_ := Aside0.mk (Kd.V_below (Kd.V_elderB (by (with_reducible repeat (first | apply Kd.V_alloc | apply Kd.V_drewN | apply Kd.V_drew)); exact HO_11.out) gb221 (Nat.le_of_eq hg.symm)) hb); have n1_ := Aside0.mk (below_step (by repeat (first | (with_reducible first | exact HB.out | apply below_alloc | apply pw_below_drewN | apply below_drew1) | exact HB.out)) hb); have n2_ := Aside0.mk (hbox); have n3_ := Aside0.mk ((by rw [hg]; exact (below_size (by repeat (first | (with_reducible first | exact HB.out | apply below_alloc | apply pw_below_drewN | apply below_drew1) | exact HB.out))) : w.heap.size ≤ gb221)); have n4_ := Aside0.mk ((by rw [hg]; exact (below_size (by repeat (first | (with_reducible first | exact HB.out | apply below_alloc | apply pw_below_drewN | apply below_drew1) | exact HB.out))) : w.heap.size ≤ gb221)); clear HO_11; clear HB; have HO_11 := n0_; have HB := n1_; have BK221 := n2_; have GW221 := n3_; have GE221 := n4_; clear n0_ n1_ n2_ n3_ n4_; clear hb hbox hg; have hcz19_0 : w18.cell? ⟨gb221, 0, none⟩ = some (.string (⟨#[]⟩ : ByteArray)) := (blk_cell BK221.out 0).trans rfl; have hcz19_1 : w18.cell? ⟨gb221, 1, none⟩ = some (.string (⟨#[]⟩ : ByteArray)) := (blk_cell BK221.out 1).trans rfl; have hfz19_0 := blk_frozen BK221.out 0; have hfz19_1 := blk_frozen BK221.out 1)); try go_wp2_with (first | ((with_reducible refine gate_dst (N := 9) rfl ?_); refine box_event ?hg (N := 9) ?hd (cs := #[.string (⟨#[]⟩ : ByteArray), .string (⟨#[]⟩ : ByteArray)]) (t := 69) ?hr ?_; (case hd => rfl); (case hg => rfl); (case hr => first | (go_simp; done) | (go_simp; rfl)); intro gb221 hg w18 hbox hb; have n0_ := Aside0.mk (Kd.V_below (Kd.V_elderB (by (with_reducible repeat (first | apply Kd.V_alloc | apply Kd.V_drewN | apply Kd.V_drew)); exact HO_11.out) gb221 (Nat.le_of_eq hg.symm)) hb); have n1_ := Aside0.mk (below_step (by repeat (first | (with_reducible first | exact HB.out | apply below_alloc | apply pw_below_drewN | apply below_drew1) | exact HB.out)) hb); have n2_ := Aside0.mk (hbox); have n3_ := Aside0.mk ((by rw [hg]; exact (below_size (by repeat (first | (with_reducible first | exact HB.out | apply below_alloc | apply pw_below_drewN | apply below_drew1) | exact HB.out))) : w.heap.size ≤ gb221)); have n4_ := Aside0.mk ((by rw [hg]; exact (below_size (by repeat (first | (with_reducible first | exact HB.out | apply below_alloc | apply pw_below_drewN | apply below_drew1) | exact HB.out))) : w.heap.size ≤ gb221)); clear HO_11; clear HB; have HO_11 := n0_; have HB := n1_; have BK221 := n2_; have GW221 := n3_; have GE221 := n4_; clear n0_ n1_ n2_ n3_ n4_; clear hb hbox hg; have hcz19_0 : w18.cell? ⟨gb221, 0, none⟩ = some (.string (⟨#[]⟩ : ByteArray)) := (blk_cell BK221.out 0).trans rfl; have hcz19_1 : w18.cell? ⟨gb221, 1, none⟩ = some (.string (⟨#[]⟩ : ByteArray)) := (blk_cell BK221.out 1).trans rfl; have hfz19_0 := blk_frozen BK221.out 0; have hfz19_1 := blk_frozen BK221.out 1)))
       go_roundg k1
       case measure => have := HK1.out; omega
       case rel => exact ⟨(x6_1), (x7_1), (wrap64 (x13_1 + 1)), (by first | rfl | (simp; done) | (simp [*]; done) | (simp <;> omega) | rw [u32_tmod]), (by first | rfl | (simp; done) | (simp [*]; done) | (simp <;> omega) | rw [u32_tmod]), (by first | rfl | (simp; done) | (simp [*]; done) | (simp <;> omega) | rw [u32_tmod]), H', ⟨by have := HK1.out; omega⟩, ⟨by (with_reducible repeat (first | apply Kd.V_alloc | apply Kd.V_drewN | apply Kd.V_drew)); exact Kd.V_mono (Kd.V_far (p := ⟨gb221, 1, none⟩) (Kd.V_far (p := ⟨gb221, 0, none⟩) (Kd.V_mono HO_11.out (fun k_ hk => (⟨hk, hk.2⟩ : _ ∧ k_ ≠ gb221))) (fun _ hk => hk.2) (.string ((rd_T69 t217 x13_1).f0))) (fun _ hk => hk.2) (.string ((rd_T69 t217 x13_1).f1))) (fun _ hk => trivial)⟩, ⟨by repeat (first | (with_reducible first | exact HB.out | apply below_alloc | apply pw_below_drewN | apply below_drew1 | refine below_set ?_ GE221.out) | exact HB.out)⟩⟩
     ·rw [if_neg c8] at H
      exact absurd H (by simp)
    ·rw [if_neg c7] at H
     exact absurd H (by simp)
   ·rw [if_neg c6] at H
    have c6b0 : decide (x13_1 < (t217.length : Int)) = false := decide_eq_false c6
    clear c6
    simp only [Option.some.injEq, Prod.mk.injEq] at H
    obtain ⟨rfl, rfl⟩ := H
    go_wp2
    repeat (go_quiet (fail); try go_wp2)
    go_ret2
    exact ⟨by first | rfl | (simp [errW_none, errW_some] <;> rfl) | (simp [*, errW_none, errW_some] <;> rfl), by repeat (first | (with_reducible first | exact HB.out | apply below_alloc | apply pw_below_drewN | apply below_drew1) | exact HB.out)⟩
def goscan_next.kinds (n : Int) : List Int := [0, n, wrap64 (n + 1), wrap64 (n + 2), 2, 3, 4, 5, 6, 7]
def goscan_next.f (k : Nat) (a0 : ByteArray) (a1 : Int) : Option (Int × Int × Int × Bool) := (goscan_longest.f k a0 a1).bind fun bl => ((goscan_written.f k a0 a1).bind fun bw => (if bw.2 > bl.1 then some (bw.1, a1, bw.2, true) else ((goscan_kindNewline.f k).bind fun n => (if bl.2 < 0 then some (0, 0, 0, false) else (if bl.2 < 10 then (if (goscan_next.kinds n).getD bl.2.toNat 0 = 2 then (if 0 ≤ a1 then (if a1 ≤ bl.1 then (if bl.1 ≤ (a0.size : Int) then ((goscan_Kind.f k (a0.extract a1.toNat bl.1.toNat)).bind fun bk => (if bk.2 = true then some (bk.1, a1, bl.1, true) else some (2, a1, bl.1, true))) else none) else none) else none) else some ((goscan_next.kinds n).getD bl.2.toNat 0, a1, bl.1, true)) else none)))))
theorem goscan_next.mono : ∀ a0 a1 k, LeO (goscan_next.f k a0 a1) (goscan_next.f (k + 1) a0 a1) := by
 intro a0 a1 k
 unfold goscan_next.f
 repeat' first
   | exact goscan_longest.mono _ _ _
   | exact goscan_written.mono _ _ _
   | exact goscan_kindNewline.mono _
   | exact goscan_Kind.mono _ _
   | exact LeO.refl _
   | exact LeO.none _
   | refine LeO.ite ?_ ?_
   | refine LeO.bind ?_ (fun _ => ?_)
theorem goscan_next.cells10 {W : World} {b : Nat} {n : Int} (h : W.heap[b]? = some (.cells #[.int .i64 0, .int .i64 n, .int .i64 (wrap64 (n + 1)), .int .i64 (wrap64 (n + 2)), .int .i64 2, .int .i64 3, .int .i64 4, .int .i64 5, .int .i64 6, .int .i64 7] 71 (0, 0))) (j : Int) (h0 : 0 ≤ j) (h1 : j < 10) : W.cell? ⟨b, j.toNat, none⟩ = some (.int .i64 ((goscan_next.kinds n).getD j.toNat 0)) := by
 rw [cell_of_row _ _ j.toNat _ _ (0, 0) h]
 rcases (by omega : j.toNat = 0 ∨ j.toNat = 1 ∨ j.toNat = 2 ∨ j.toNat = 3 ∨ j.toNat = 4 ∨ j.toNat = 5 ∨ j.toNat = 6 ∨ j.toNat = 7 ∨ j.toNat = 8 ∨ j.toNat = 9) with e | e | e | e | e | e | e | e | e | e <;> rw [e] <;> rfl
set_option maxHeartbeats 8000000 in
set_option maxRecDepth 100000 in
theorem goscan_next.calls (k : Nat) (a0 : ByteArray) (a1 : Int) (r1 : Int) (r2 : Int) (r3 : Int) (r4 : Bool) (w : World) (h : goscan_next.f k a0 a1 = some (r1, r2, r3, r4)) :
  Calls Try.prog 29 #[.string a0, .int .i64 a1] w fun e w' => e = .returned (.tuple #[.agg #[.int .i64 r1, .int .i64 r2, .int .i64 r3], .bool r4]) ∧ Below w.heap.size w w' := by
 unfold goscan_next.f at h
 obtain ⟨⟨l1, l2⟩, A0, h⟩ := Option.bind_eq_some_iff.mp h
 obtain ⟨⟨m1, m2⟩, A1, h⟩ := Option.bind_eq_some_iff.mp h
 replace A0 := Aside0.mk A0
 replace A1 := Aside0.mk A1
 dsimp only at h
 by_cases c1 : m2 > l1
 ·rw [if_pos c1] at h
  obtain ⟨rfl, rfl, rfl, rfl⟩ : m1 = r1 ∧ a1 = r2 ∧ m2 = r3 ∧ true = r4 := by simpa using h
  clear h
  have d1 : decide (l1 < m2) = true := decide_eq_true c1
  clear c1
  go_enter Try.func29, Try.ntmps29
  go_wp2_with (first
   | (go_at_call 47; refine (goscan_longest.calls k a0 a1 _ _ _ A0.out).mono ?_; rintro e w1 ⟨rfl, hb⟩; have B1 := Aside0.mk ((Below.refl w.heap.size w).alloc (Nat.le_refl _) _ |>.trans (hb.mono (Nat.le_trans (Nat.le_succ _) (Nat.le_of_eq (szAlloc w _).symm)))); have k1 := Aside0.mk (blk_below (blk_new w _) hb); clear hb)
   | (go_at_call 48; refine (goscan_written.calls k a0 a1 _ _ _ A1.out).mono ?_; rintro e w2 ⟨rfl, hb⟩; have B2 := Aside0.mk (B1.out.trans (hb.mono B1.out.size)); have k2 := Aside0.mk (blk_below k1.out hb); clear hb; have c20 := (blk_cell k2.out 0).trans rfl; have c21 := (blk_cell k2.out 1).trans rfl; have c22 := (blk_cell k2.out 2).trans rfl; have f20 := blk_frozen k2.out 0; have f21 := blk_frozen k2.out 1; have f22 := blk_frozen k2.out 2))
  exact bodyPost_ret (v := .tuple #[.agg #[.int .i64 m1, .int .i64 a1, .int .i64 m2], .bool true]) (by simp [results, Try.results29, go_sem, c20, c21, c22]) rfl ⟨rfl, ((B2.out.setCell (Nat.le_refl _) _).setCell (Nat.le_refl _) _).setCell (Nat.le_refl _) _⟩
 rw [if_neg c1] at h
 obtain ⟨n, A2, h⟩ := Option.bind_eq_some_iff.mp h
 replace A2 := Aside0.mk A2
 have d1 : decide (l1 < m2) = false := decide_eq_false c1
 clear c1
 by_cases c2 : l2 < 0
 ·rw [if_pos c2] at h
  obtain ⟨rfl, rfl, rfl, rfl⟩ : 0 = r1 ∧ 0 = r2 ∧ 0 = r3 ∧ false = r4 := by simpa using h
  clear h
  have d2 : decide (l2 < 0) = true := decide_eq_true c2
  clear c2
  go_enter Try.func29, Try.ntmps29
  go_upto_if 42 with (first
   | (go_at_call 47; refine (goscan_longest.calls k a0 a1 _ _ _ A0.out).mono ?_; rintro e w1 ⟨rfl, hb⟩; have B1 := Aside0.mk ((Below.refl w.heap.size w).alloc (Nat.le_refl _) _ |>.trans (hb.mono (Nat.le_trans (Nat.le_succ _) (Nat.le_of_eq (szAlloc w _).symm)))); have k1 := Aside0.mk (blk_below (blk_new w _) hb); clear hb)
   | (go_at_call 48; refine (goscan_written.calls k a0 a1 _ _ _ A1.out).mono ?_; rintro e w2 ⟨rfl, hb⟩; have B2 := Aside0.mk (B1.out.trans (hb.mono B1.out.size)); have k2 := Aside0.mk (blk_below k1.out hb); clear hb; have c20 := (blk_cell k2.out 0).trans rfl; have c21 := (blk_cell k2.out 1).trans rfl; have c22 := (blk_cell k2.out 2).trans rfl; have f20 := blk_frozen k2.out 0; have f21 := blk_frozen k2.out 1; have f22 := blk_frozen k2.out 2)
   | (go_at_call 34; refine (goscan_kindNewline.calls k _ _ A2.out).mono ?_; rintro e w3 ⟨rfl, hb⟩; clear c20 c21 c22 f20 f21 f22; have B3 := Aside0.mk ((B2.out.trans (hb.mono B2.out.size)).alloc (Nat.le_trans B2.out.size hb.size) (.cells #[.int .i64 0, .int .i64 n, .int .i64 (wrap64 (n + 1)), .int .i64 (wrap64 (n + 2)), .int .i64 2, .int .i64 3, .int .i64 4, .int .i64 5, .int .i64 6, .int .i64 7] 71)); have k3 := Aside0.mk (blk_alloc (blk_below k2.out hb) (.cells #[.int .i64 0, .int .i64 n, .int .i64 (wrap64 (n + 1)), .int .i64 (wrap64 (n + 2)), .int .i64 2, .int .i64 3, .int .i64 4, .int .i64 5, .int .i64 6, .int .i64 7] 71)); clear hb))
  generalize hw4 : w3.alloc (.cells #[.int .i64 0, .int .i64 n, .int .i64 (wrap64 (n + 1)), .int .i64 (wrap64 (n + 2)), .int .i64 2, .int .i64 3, .int .i64 4, .int .i64 5, .int .i64 6, .int .i64 7] 71) = w4 at B3 k3 ⊢
  clear hw4
  have c40 := (blk_cell k3.out 0).trans rfl
  have c41 := (blk_cell k3.out 1).trans rfl
  have c42 := (blk_cell k3.out 2).trans rfl
  have f40 := blk_frozen k3.out 0
  have f41 := blk_frozen k3.out 1
  have f42 := blk_frozen k3.out 2
  have hz4 : w.heap.size < w4.heap.size := blk_lt k3.out
  go_wp2
  exact bodyPost_ret (v := .tuple #[.agg #[.int .i64 0, .int .i64 0, .int .i64 0], .bool false]) (by simp [results, Try.results29, go_sem, c40, c41, c42]) rfl ⟨rfl, ((B3.out.setCell (Nat.le_refl _) _).setCell (Nat.le_refl _) _).setCell (Nat.le_refl _) _⟩
 rw [if_neg c2] at h
 by_cases c3 : l2 < 10
 ·rw [if_pos c3] at h
  have d2 : decide (l2 < 0) = false := decide_eq_false c2
  have d2' : 0 ≤ l2 := by omega
  clear c2
  have d3 : decide (l2 < 10) = true := decide_eq_true c3
  obtain ⟨kd, hkd⟩ : ∃ kd : Int, (goscan_next.kinds n).getD l2.toNat 0 = kd := ⟨_, rfl⟩
  rw [hkd] at h
  by_cases c4 : kd = 2
  ·rw [if_pos c4] at h
   subst c4
   by_cases c5 : 0 ≤ a1
   ·rw [if_pos c5] at h
    by_cases c6 : a1 ≤ l1
    ·rw [if_pos c6] at h
     by_cases c7 : l1 ≤ (a0.size : Int)
     ·rw [if_pos c7] at h
      obtain ⟨⟨q1, q2⟩, A3, h⟩ := Option.bind_eq_some_iff.mp h
      replace A3 := Aside0.mk A3
      dsimp only at h
      have hkd := Aside0.mk hkd
      cases q2 with
      | true =>
       obtain ⟨rfl, rfl, rfl, rfl⟩ : q1 = r1 ∧ a1 = r2 ∧ l1 = r3 ∧ true = r4 := by simpa using h
       clear h
       go_enter Try.func29, Try.ntmps29
       go_upto_if 42 with (first
        | (go_at_call 47; refine (goscan_longest.calls k a0 a1 _ _ _ A0.out).mono ?_; rintro e w1 ⟨rfl, hb⟩; have B1 := Aside0.mk ((Below.refl w.heap.size w).alloc (Nat.le_refl _) _ |>.trans (hb.mono (Nat.le_trans (Nat.le_succ _) (Nat.le_of_eq (szAlloc w _).symm)))); have k1 := Aside0.mk (blk_below (blk_new w _) hb); clear hb)
        | (go_at_call 48; refine (goscan_written.calls k a0 a1 _ _ _ A1.out).mono ?_; rintro e w2 ⟨rfl, hb⟩; have B2 := Aside0.mk (B1.out.trans (hb.mono B1.out.size)); have k2 := Aside0.mk (blk_below k1.out hb); clear hb; have c20 := (blk_cell k2.out 0).trans rfl; have c21 := (blk_cell k2.out 1).trans rfl; have c22 := (blk_cell k2.out 2).trans rfl; have f20 := blk_frozen k2.out 0; have f21 := blk_frozen k2.out 1; have f22 := blk_frozen k2.out 2)
        | (go_at_call 34; refine (goscan_kindNewline.calls k _ _ A2.out).mono ?_; rintro e w3 ⟨rfl, hb⟩; clear c20 c21 c22 f20 f21 f22; have B3 := Aside0.mk ((B2.out.trans (hb.mono B2.out.size)).alloc (Nat.le_trans B2.out.size hb.size) (.cells #[.int .i64 0, .int .i64 n, .int .i64 (wrap64 (n + 1)), .int .i64 (wrap64 (n + 2)), .int .i64 2, .int .i64 3, .int .i64 4, .int .i64 5, .int .i64 6, .int .i64 7] 71)); have k3 := Aside0.mk (blk_alloc (blk_below k2.out hb) (.cells #[.int .i64 0, .int .i64 n, .int .i64 (wrap64 (n + 1)), .int .i64 (wrap64 (n + 2)), .int .i64 2, .int .i64 3, .int .i64 4, .int .i64 5, .int .i64 6, .int .i64 7] 71)); have e11 := goscan_next.cells10 (n := n) (heap_alloc_last w3 _) l2 d2' c3; clear hb))
       generalize hw4 : w3.alloc (.cells #[.int .i64 0, .int .i64 n, .int .i64 (wrap64 (n + 1)), .int .i64 (wrap64 (n + 2)), .int .i64 2, .int .i64 3, .int .i64 4, .int .i64 5, .int .i64 6, .int .i64 7] 71) = w4 at B3 k3 e11 ⊢
       clear hw4
       have c40 := (blk_cell k3.out 0).trans rfl
       have c41 := (blk_cell k3.out 1).trans rfl
       have c42 := (blk_cell k3.out 2).trans rfl
       have f40 := blk_frozen k3.out 0
       have f41 := blk_frozen k3.out 1
       have f42 := blk_frozen k3.out 2
       have hz4 : w.heap.size < w4.heap.size := blk_lt k3.out
       rw [hkd.out] at e11
       go_wp2_with (first | (go_at_call 21; refine (goscan_Kind.calls k _ _ _ _ A3.out).mono ?_; rintro e w5 ⟨rfl, hb⟩; have B5 := Aside0.mk ((B3.out.alloc B3.out.size _).trans (hb.mono (Nat.le_trans B3.out.size (Nat.le_trans (Nat.le_succ _) (Nat.le_of_eq (szAlloc w4 _).symm))))); have k5 := Aside0.mk (blk_below (blk_new w4 _) hb); have k6 := Aside0.mk (blk_below (blk_alloc k3.out _) hb); clear hb; have c50 := (blk_cell k5.out 0).trans rfl; have c51 := (blk_cell k5.out 1).trans rfl; have c52 := (blk_cell k5.out 2).trans rfl; have f50 := blk_frozen k5.out 0; have f51 := blk_frozen k5.out 1; have f52 := blk_frozen k5.out 2; have c60 := (blk_cell k6.out 0).trans rfl; have c61 := (blk_cell k6.out 1).trans rfl; have c62 := (blk_cell k6.out 2).trans rfl; have f60 := blk_frozen k6.out 0; have f61 := blk_frozen k6.out 1; have f62 := blk_frozen k6.out 2; have hne := Nat.ne_of_gt hz4; have hne' := Nat.ne_of_lt hz4))
       exact bodyPost_ret (v := .tuple #[.agg #[.int .i64 q1, .int .i64 a1, .int .i64 l1], .bool true]) (by simp [results, Try.results29, go_sem, c50, c51, c52, c60, c61, c62, hne, hne']) rfl ⟨rfl, (((B5.out.setCell (Nat.le_of_lt hz4) _).setCell (Nat.le_refl _) _).setCell (Nat.le_refl _) _).setCell (Nat.le_refl _) _⟩
      | false =>
       obtain ⟨rfl, rfl, rfl, rfl⟩ : 2 = r1 ∧ a1 = r2 ∧ l1 = r3 ∧ true = r4 := by simpa using h
       clear h
       go_enter Try.func29, Try.ntmps29
       go_upto_if 42 with (first
        | (go_at_call 47; refine (goscan_longest.calls k a0 a1 _ _ _ A0.out).mono ?_; rintro e w1 ⟨rfl, hb⟩; have B1 := Aside0.mk ((Below.refl w.heap.size w).alloc (Nat.le_refl _) _ |>.trans (hb.mono (Nat.le_trans (Nat.le_succ _) (Nat.le_of_eq (szAlloc w _).symm)))); have k1 := Aside0.mk (blk_below (blk_new w _) hb); clear hb)
        | (go_at_call 48; refine (goscan_written.calls k a0 a1 _ _ _ A1.out).mono ?_; rintro e w2 ⟨rfl, hb⟩; have B2 := Aside0.mk (B1.out.trans (hb.mono B1.out.size)); have k2 := Aside0.mk (blk_below k1.out hb); clear hb; have c20 := (blk_cell k2.out 0).trans rfl; have c21 := (blk_cell k2.out 1).trans rfl; have c22 := (blk_cell k2.out 2).trans rfl; have f20 := blk_frozen k2.out 0; have f21 := blk_frozen k2.out 1; have f22 := blk_frozen k2.out 2)
        | (go_at_call 34; refine (goscan_kindNewline.calls k _ _ A2.out).mono ?_; rintro e w3 ⟨rfl, hb⟩; clear c20 c21 c22 f20 f21 f22; have B3 := Aside0.mk ((B2.out.trans (hb.mono B2.out.size)).alloc (Nat.le_trans B2.out.size hb.size) (.cells #[.int .i64 0, .int .i64 n, .int .i64 (wrap64 (n + 1)), .int .i64 (wrap64 (n + 2)), .int .i64 2, .int .i64 3, .int .i64 4, .int .i64 5, .int .i64 6, .int .i64 7] 71)); have k3 := Aside0.mk (blk_alloc (blk_below k2.out hb) (.cells #[.int .i64 0, .int .i64 n, .int .i64 (wrap64 (n + 1)), .int .i64 (wrap64 (n + 2)), .int .i64 2, .int .i64 3, .int .i64 4, .int .i64 5, .int .i64 6, .int .i64 7] 71)); have e11 := goscan_next.cells10 (n := n) (heap_alloc_last w3 _) l2 d2' c3; clear hb))
       generalize hw4 : w3.alloc (.cells #[.int .i64 0, .int .i64 n, .int .i64 (wrap64 (n + 1)), .int .i64 (wrap64 (n + 2)), .int .i64 2, .int .i64 3, .int .i64 4, .int .i64 5, .int .i64 6, .int .i64 7] 71) = w4 at B3 k3 e11 ⊢
       clear hw4
       have c40 := (blk_cell k3.out 0).trans rfl
       have c41 := (blk_cell k3.out 1).trans rfl
       have c42 := (blk_cell k3.out 2).trans rfl
       have f40 := blk_frozen k3.out 0
       have f41 := blk_frozen k3.out 1
       have f42 := blk_frozen k3.out 2
       have hz4 : w.heap.size < w4.heap.size := blk_lt k3.out
       rw [hkd.out] at e11
       go_wp2_with (first | (go_at_call 21; refine (goscan_Kind.calls k _ _ _ _ A3.out).mono ?_; rintro e w5 ⟨rfl, hb⟩; have B5 := Aside0.mk ((B3.out.alloc B3.out.size _).trans (hb.mono (Nat.le_trans B3.out.size (Nat.le_trans (Nat.le_succ _) (Nat.le_of_eq (szAlloc w4 _).symm))))); have k5 := Aside0.mk (blk_below (blk_new w4 _) hb); have k6 := Aside0.mk (blk_below (blk_alloc k3.out _) hb); clear hb; have c50 := (blk_cell k5.out 0).trans rfl; have c51 := (blk_cell k5.out 1).trans rfl; have c52 := (blk_cell k5.out 2).trans rfl; have f50 := blk_frozen k5.out 0; have f51 := blk_frozen k5.out 1; have f52 := blk_frozen k5.out 2; have c60 := (blk_cell k6.out 0).trans rfl; have c61 := (blk_cell k6.out 1).trans rfl; have c62 := (blk_cell k6.out 2).trans rfl; have f60 := blk_frozen k6.out 0; have f61 := blk_frozen k6.out 1; have f62 := blk_frozen k6.out 2; have hne := Nat.ne_of_gt hz4; have hne' := Nat.ne_of_lt hz4))
       exact bodyPost_ret (v := .tuple #[.agg #[.int .i64 2, .int .i64 a1, .int .i64 l1], .bool true]) (by simp [results, Try.results29, go_sem, c50, c51, c52, c60, c61, c62, hne, hne']) rfl ⟨rfl, ((B5.out.setCell (Nat.le_refl _) _).setCell (Nat.le_refl _) _).setCell (Nat.le_refl _) _⟩
     ·rw [if_neg c7] at h
      exact absurd h (by simp)
    ·rw [if_neg c6] at h
     exact absurd h (by simp)
   ·rw [if_neg c5] at h
    exact absurd h (by simp)
  ·rw [if_neg c4] at h
   obtain ⟨rfl, rfl, rfl, rfl⟩ : kd = r1 ∧ a1 = r2 ∧ l1 = r3 ∧ true = r4 := by simpa using h
   clear h
   have d4 : (kd == 2) = false := beq_eq_false_iff_ne.mpr c4
   clear c4
   have hkd := Aside0.mk hkd
   go_enter Try.func29, Try.ntmps29
   go_upto_if 42 with (first
    | (go_at_call 47; refine (goscan_longest.calls k a0 a1 _ _ _ A0.out).mono ?_; rintro e w1 ⟨rfl, hb⟩; have B1 := Aside0.mk ((Below.refl w.heap.size w).alloc (Nat.le_refl _) _ |>.trans (hb.mono (Nat.le_trans (Nat.le_succ _) (Nat.le_of_eq (szAlloc w _).symm)))); have k1 := Aside0.mk (blk_below (blk_new w _) hb); clear hb)
    | (go_at_call 48; refine (goscan_written.calls k a0 a1 _ _ _ A1.out).mono ?_; rintro e w2 ⟨rfl, hb⟩; have B2 := Aside0.mk (B1.out.trans (hb.mono B1.out.size)); have k2 := Aside0.mk (blk_below k1.out hb); clear hb; have c20 := (blk_cell k2.out 0).trans rfl; have c21 := (blk_cell k2.out 1).trans rfl; have c22 := (blk_cell k2.out 2).trans rfl; have f20 := blk_frozen k2.out 0; have f21 := blk_frozen k2.out 1; have f22 := blk_frozen k2.out 2)
    | (go_at_call 34; refine (goscan_kindNewline.calls k _ _ A2.out).mono ?_; rintro e w3 ⟨rfl, hb⟩; clear c20 c21 c22 f20 f21 f22; have B3 := Aside0.mk ((B2.out.trans (hb.mono B2.out.size)).alloc (Nat.le_trans B2.out.size hb.size) (.cells #[.int .i64 0, .int .i64 n, .int .i64 (wrap64 (n + 1)), .int .i64 (wrap64 (n + 2)), .int .i64 2, .int .i64 3, .int .i64 4, .int .i64 5, .int .i64 6, .int .i64 7] 71)); have k3 := Aside0.mk (blk_alloc (blk_below k2.out hb) (.cells #[.int .i64 0, .int .i64 n, .int .i64 (wrap64 (n + 1)), .int .i64 (wrap64 (n + 2)), .int .i64 2, .int .i64 3, .int .i64 4, .int .i64 5, .int .i64 6, .int .i64 7] 71)); have e11 := goscan_next.cells10 (n := n) (heap_alloc_last w3 _) l2 d2' c3; clear hb))
   generalize hw4 : w3.alloc (.cells #[.int .i64 0, .int .i64 n, .int .i64 (wrap64 (n + 1)), .int .i64 (wrap64 (n + 2)), .int .i64 2, .int .i64 3, .int .i64 4, .int .i64 5, .int .i64 6, .int .i64 7] 71) = w4 at B3 k3 e11 ⊢
   clear hw4
   have c40 := (blk_cell k3.out 0).trans rfl
   have c41 := (blk_cell k3.out 1).trans rfl
   have c42 := (blk_cell k3.out 2).trans rfl
   have f40 := blk_frozen k3.out 0
   have f41 := blk_frozen k3.out 1
   have f42 := blk_frozen k3.out 2
   have hz4 : w.heap.size < w4.heap.size := blk_lt k3.out
   rw [hkd.out] at e11
   go_wp2
   have q := blk_alloc (blk_set (blk_set (blk_set k3.out 0 (.int .i64 kd)) 1 (.int .i64 a1)) 2 (.int .i64 l1)) (.cells #[.int .i64 kd, .int .i64 a1, .int .i64 l1] 36)
   have q0 := (blk_cell q 0).trans rfl
   have q1 := (blk_cell q 1).trans rfl
   have q2 := (blk_cell q 2).trans rfl
   exact bodyPost_ret (v := .tuple #[.agg #[.int .i64 kd, .int .i64 a1, .int .i64 l1], .bool true]) (by simp [results, Try.results29, go_sem, q0, q1, q2]) rfl ⟨rfl, by repeat (first | exact B3.out | apply below_alloc | exact Nat.le_refl _ | refine Below.setCell ?_ ?_ _)⟩
 ·rw [if_neg c3] at h
  exact absurd h (by simp)
end Go.Proofs.Ytcajiapjdlphmaa.H
