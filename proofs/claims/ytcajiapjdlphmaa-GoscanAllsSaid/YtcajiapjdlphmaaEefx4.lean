import Derived.Test.YtcajiapjdlphmaaEPre
import Derived.Test.YtcajiapjdlphmaaEefx0
import Derived.Test.YtcajiapjdlphmaaEefx3
namespace Go.Proofs.Ytcajiapjdlphmaa.H
open Go.RowKit Go.Proofs.YtcajiapjdlphmaaW.PrintWords Go.Proofs.YtcajiapjdlphmaaW.PrintLast Go.Proofs.YtcajiapjdlphmaaW.PrintMore
attribute [local go_sem] max2_int min2_int max_two min_two max_three min_three max_four min_four
set_option linter.unusedVariables false
set_option linter.unusedSimpArgs false
mutual
def quoinref26_Raw.j0 : Nat → ByteArray → Int → Bool → Option ((List (S36)) × Int × Int)
 | 0, _, _, _ => none
 | k + 1, x0, x4, x21 => if x21 = true then (quoinref26_Raw.j1 k x0 3) else (quoinref26_Raw.j1 k x0 x4)
def quoinref26_Raw.j1 : Nat → ByteArray → Int → Option ((List (S36)) × Int × Int)
 | 0, _, _ => none
 | k + 1, x0, x4 => quoinref26_Raw.l0 k x0 x4 ([] : List (S36))
def quoinref26_Raw.l0 : Nat → ByteArray → Int → List (S36) → Option ((List (S36)) × Int × Int)
 | 0, _, _, _ => none
 | k + 1, x0, x4, x5 => if x4 < (x0.size : Int) then ((quoinref26_match.f k x0 x4).bind fun bt400 => (if bt400.2 < 0 then ((quoinref01_Next.f k x0 x4).bind fun bt403 => (if bt403.2.2 = true then (some (([] : List (S36)), 60, x4)) else (some (([] : List (S36)), 10, x4)))) else (if bt400.1 > 0 then (quoinref26_Raw.j3 k x0 x4 x5 (decide ((x5.length : Int) ≥ 65536)) bt400.1 bt400.2) else (quoinref26_Raw.j3 k x0 x4 x5 false bt400.1 bt400.2)))) else (some (x5, 0, 0))
def quoinref26_Raw.j3 : Nat → ByteArray → Int → List (S36) → Bool → Int → Int → Option ((List (S36)) × Int × Int)
 | 0, _, _, _, _, _, _ => none
 | k + 1, x0, x4, x5, x51, x403000, x403001 => if x51 = true then (some (([] : List (S36)), 3, x4)) else (if x403000 > 0 then (if x5.length < 5864062014805 then (quoinref26_Raw.l0 k x0 x403001 (x5 ++ [(⟨x403000, x4, x403001⟩ : S36)])) else (none)) else (quoinref26_Raw.l0 k x0 x403001 x5))
end
def quoinref26_Raw.f (k : Nat) (a0 : ByteArray) : Option ((List (S36)) × Int × Int) := if (a0.size : Int) > 262144 then (some (([] : List (S36)), 3, 0)) else (if (a0.size : Int) ≥ 3 then (if 3 ≤ (a0.size : Int) then (quoinref26_Raw.j0 k a0 0 ((a0.extract 0 3).toList == ([239, 187, 191] : List UInt8))) else (none)) else (quoinref26_Raw.j0 k a0 0 false))
set_option maxHeartbeats 8000000 in
set_option maxRecDepth 100000 in
theorem quoinref26_Raw.calls {k : Nat} {a0 : ByteArray} {r1 : List (S36)} {r2 : Int} {r3 : Int} {w : World} (h : quoinref26_Raw.f k a0 = some (r1, r2, r3)) :
  Calls Try.prog 10 #[.string a0] w fun e w' => ∃ v0_ : Value, e = .returned (.tuple #[v0_, .agg #[.int .i64 r2, .int .i64 r3]]) ∧ Kd.R k36 36 w' w.heap.size (fun _ => True) v0_ r1 ∧ Below w.heap.size w w' := by
 have hu25 := Try.underlying25
 have hu55 := Try.underlying55
 have hu36 := Try.underlying36
 have HB := Aside0.mk (Below.refl w.heap.size w)
 have H : (if (a0.size : Int) > 262144 then (some (([] : List (S36)), 3, 0)) else (if (a0.size : Int) ≥ 3 then (if 3 ≤ (a0.size : Int) then (quoinref26_Raw.j0 k a0 0 ((a0.extract 0 3).toList == ([239, 187, 191] : List UInt8))) else (none)) else (quoinref26_Raw.j0 k a0 0 false))) = some (r1, r2, r3) := h
 clear h
 by_cases c2 : (a0.size : Int) > 262144
 ·rw [if_pos c2] at H
  have c2b0 : decide (262144 < (a0.size : Int)) = true := decide_eq_true c2
  have c2b1 : decide (262144 < a0.size) = true := decide_eq_true Z57
  clear c2
  simp only [Option.some.injEq, Prod.mk.injEq] at H
  obtain ⟨rfl, rfl, rfl⟩ := H
  go_enter Try.func10, Try.ntmps10
  go_wp2_with (first | ((with_reducible refine gate_dst (N := 3) rfl ?_); (try (refine gate_guard Z67 ?_; dsimp only)); refine box_event ?hg (N := 3) ?hd (cs := #[.int .i64 0, .int .i64 0]) (t := 25) ?hr ?_; (case hd => rfl); (case hg => rfl); (case hr => first | (go_simp; done) | (go_simp; rfl)); intro gb399 hg w3 hbox hb; have BK399 := Aside0.mk (hbox); have GW399 := gE hg zB; have GE399 := gE hg zB; replace HB := Aside0.mk (below_step zB hb); clear hb hbox hg; have hcz4_0 := bC BK399 0 (.int .i64 0); have hcz4_1 := bC BK399 1 (.int .i64 0); have hfz4_0 := blk_frozen BK399.out 0; have hfz4_1 := blk_frozen BK399.out 1))
  refine bodyPost_ret (results_tc rfl _ _ gb399 25 #[.int .i64 3, .int .i64 0] (0, 0) _ rfl (by (with_reducible repeat (first | refine blk_drewN ?_ _ | refine blk_drew ?_ | refine blk_alloc ?_ _)); refine blk_put (cs := #[.int .i64 3, .int .i64 0]) ?_ 1 _ rfl; (with_reducible repeat (first | refine blk_drewN ?_ _ | refine blk_drew ?_ | refine blk_alloc ?_ _)); refine blk_put (cs := #[.int .i64 0, .int .i64 0]) ?_ 0 _ rfl; (with_reducible repeat (first | refine blk_drewN ?_ _ | refine blk_drew ?_ | refine blk_alloc ?_ _)); exact BK399.out) Try.underlying25 rfl Z5) rfl ?_
  exact ⟨_, Z2, Z10, Z0⟩
 ·rw [if_neg c2] at H
  have c2b0 : decide (262144 < (a0.size : Int)) = false := decide_eq_false c2
  have c2b1 : decide (262144 < a0.size) = false := decide_eq_false Z57
  clear c2
  have HC5 := Aside0.mk H
  clear H
  go_enter Try.func10, Try.ntmps10
  go_upto_region 4 with (first | ((with_reducible refine gate_dst (N := 3) rfl ?_); (try (refine gate_guard Z67 ?_; dsimp only)); refine box_event ?hg (N := 3) ?hd (cs := #[.int .i64 0, .int .i64 0]) (t := 25) ?hr ?_; (case hd => rfl); (case hg => rfl); (case hr => first | (go_simp; done) | (go_simp; rfl)); intro gb399 hg w6 hbox hb; have BK399 := Aside0.mk (hbox); have GW399 := gE hg zB; have GE399 := gE hg zB; replace HB := Aside0.mk (below_step zB hb); clear hb hbox hg))
  (try simp only [Act.put, List.setIfInBounds_toArray, List.set_cons_zero, List.set_cons_succ])
  go_cut [21] (fun v21 wc => ∃ (kq : Nat) (x21_4 : Bool), v21 = .bool x21_4 ∧ Aside0 (quoinref26_Raw.j0 kq a0 0 x21_4 = some (r1, r2, r3)) ∧ Aside0 (kq ≤ k) ∧ Aside0 (wc.heap[gb399]? = some (.cells #[.int .i64 0, .int .i64 0] 25 (0, 0))) ∧ Aside0 (Below w.heap.size w wc))
  case first =>
   have H := HC5.out
   clear HC5
   by_cases c7 : (a0.size : Int) ≥ 3
   ·rw [if_pos c7] at H
    have c7b0 : decide (3 ≤ (a0.size : Int)) = true := decide_eq_true c7
    have c7b1 : decide (3 ≤ a0.size) = true := decide_eq_true Z57
    clear c7
    (first | rw [c7b0] | (simp only [i64_w, i32_w]; rw [c7b0]) | skip)
    by_cases c8 : 3 ≤ (a0.size : Int)
    ·rw [if_pos c8] at H
     have c8b0 := eq_true c8
     have c8b1 := decide_eq_true c8
     clear c8
     have H' := Aside0.mk H
     clear H
     go_wp2
     go_meet
     case rel => exact ⟨_, (((a0.extract 0 3).toList == ([239, 187, 191] : List UInt8))), Z1, H', ⟨Z26⟩, ⟨Z54⟩, ⟨Z0⟩⟩
    ·rw [if_neg c8] at H
     exact absurd H Z61
   ·rw [if_neg c7] at H
    have c7b0 : decide (3 ≤ (a0.size : Int)) = false := decide_eq_false c7
    have c7b1 : decide (3 ≤ a0.size) = false := decide_eq_false Z57
    clear c7
    (first | rw [c7b0] | (simp only [i64_w, i32_w]; rw [c7b0]) | skip)
    have H' := Aside0.mk H
    clear H
    go_wp2
    go_meet
    case rel => exact ⟨_, (false), Z1, H', ⟨Z26⟩, ⟨Z54⟩, ⟨Z0⟩⟩
  case rest =>
   clear HC5
   try clear c1
   try clear c2
   try clear c2b0
   try clear c2b1
   try clear p2
   try clear c7
   try clear c7b0
   try clear c7b1
   try clear c8
   try clear c8b0
   try clear c8b1
   try clear hcz4_0
   try clear hcz4_1
   try clear hfz4_0
   try clear hfz4_1
   obtain ⟨kq, x21_4, rfl, HA, HJ4, BK399, HB⟩ := hcut
   cases kq with
   | zero => exact absurd HA.out (by simp [quoinref26_Raw.j0])
   | succ kj4 =>
    have H := HA.out
    clear HA
    simp only [quoinref26_Raw.j0] at H
    have HC9 := Aside0.mk H
    clear H
    go_upto_if 21 with (fail)
    go_cut [4] (fun v4 wc => ∃ (kq : Nat) (x4_8 : Int), v4 = .int .i64 x4_8 ∧ Aside0 (quoinref26_Raw.j1 kq a0 x4_8 = some (r1, r2, r3)) ∧ Aside0 (kq ≤ kj4) ∧ Aside0 (wc.heap[gb399]? = some (.cells #[.int .i64 0, .int .i64 0] 25 (0, 0))) ∧ Aside0 (Below w.heap.size w wc))
    case first =>
     have H := HC9.out
     clear HC9
     by_cases c10 : x21_4 = true
     ·subst c10
      have H1 : (quoinref26_Raw.j1 kj4 a0 3) = some (r1, r2, r3) := by rw [if_pos rfl] at H; exact H
      clear H
      have H := H1
      clear H1
      have H' := Aside0.mk H
      clear H
      go_wp2
      go_meet
      case rel => exact ⟨_, (3), Z1, H', ⟨by have := HJ4.out; first | omega | exact Nat.le_refl _⟩, ⟨Z54⟩, ⟨Z0⟩⟩
     ·replace c10 := Bool.eq_false_iff.mpr c10
      subst c10
      have H1 : (quoinref26_Raw.j1 kj4 a0 0) = some (r1, r2, r3) := by rw [if_neg (show ¬ (false = true) by decide)] at H; exact H
      clear H
      have H := H1
      clear H1
      have H' := Aside0.mk H
      clear H
      go_wp2
      go_meet
      case rel => exact ⟨_, (0), Z1, H', ⟨by have := HJ4.out; first | omega | exact Nat.le_refl _⟩, ⟨Z54⟩, ⟨Z0⟩⟩
    case rest =>
     clear HC9
     try clear c1
     try clear c2
     try clear c2b0
     try clear c2b1
     try clear p2
     try clear c7
     try clear c7b0
     try clear c7b1
     try clear c8
     try clear c8b0
     try clear c8b1
     try clear c10
     try clear hcz4_0
     try clear hcz4_1
     try clear hfz4_0
     try clear hfz4_1
     try clear p2
     obtain ⟨kq, x4_8, rfl, HA, HJ8, BK399, HB⟩ := hcut
     cases kq with
     | zero => exact absurd HA.out (by simp [quoinref26_Raw.j1])
     | succ kj8 =>
      have H := HA.out
      clear HA
      simp only [quoinref26_Raw.j1] at H
      have H' := Aside0.mk H
      clear H
      go_wp2
      go_loopg [4, 5] kj8 (fun kq v4 v5 w' => ∃ (x4_3 : Int) (x5_3 : List (S36)) (x400000_3 : Int) (x400001_3 : Int), v4 = .int .i64 x4_3 ∧ Aside0 (quoinref26_Raw.l0 kq a0 x4_3 x5_3 = some (r1, r2, r3)) ∧ Aside0 (kq ≤ kj8) ∧ Aside0 (Kd.R k36 36 w' w.heap.size (fun _ => True) v5 x5_3) ∧ Aside0 (w'.heap[gb399]? = some (.cells #[.int .i64 x400000_3, .int .i64 x400001_3] 25 (0, 0))) ∧ Aside0 (Below w.heap.size w w'))
      case atStart => exact ⟨(x4_8), (([] : List (S36))), (0), (0), Z1, H', ⟨Nat.le_refl _⟩, ⟨Z10⟩, ⟨Z54⟩, ⟨Z0⟩⟩
      case round =>
       clear H'
       try clear c1
       try clear c2
       try clear c2b0
       try clear c2b1
       try clear p2
       try clear c7
       try clear c7b0
       try clear c7b1
       try clear c8
       try clear c8b0
       try clear c8b1
       try clear c10
       try clear hcz4_0
       try clear hcz4_1
       try clear hfz4_0
       try clear hfz4_1
       try clear p2
       obtain ⟨x4_3, x5_3, x400000_3, x400001_3, rfl, HA, HK3, HO_5, BK399, HB⟩ := hrel
       cases gk with
       | zero => exact absurd HA.out (by simp [quoinref26_Raw.l0])
       | succ k3 =>
        have H := HA.out
        clear HA
        simp only [quoinref26_Raw.l0] at H
        by_cases c11 : x4_3 < (a0.size : Int)
        ·rw [if_pos c11] at H
         have c11b0 := decide_eq_true c11
         clear c11
         replace H := bS H
         obtain ⟨⟨t400, t401⟩, A12, H⟩ := H
         try dsimp only at H
         by_cases c13 : t401 < 0
         ·rw [if_pos c13] at H
          have c13b0 := decide_eq_true c13
          clear c13
          replace H := bS H
          obtain ⟨⟨t403, t404, t405⟩, A14, H⟩ := H
          try dsimp only at H
          by_cases c15 : t405 = true
          ·subst c15
           have H1 : (some (([] : List (S36)), 60, x4_3)) = some (r1, r2, r3) := by rw [if_pos rfl] at H; exact H
           clear H
           have H := H1
           clear H1
           simp only [Option.some.injEq, Prod.mk.injEq] at H
           obtain ⟨rfl, rfl, rfl⟩ := H
           go_wp2_with (first | (refine gR (some 28) Try.func31 (quoinref26_match.calls A12.out) (h := ?_); rintro w16 hb; replace HO_5 := Aside0.mk (Kd.R_below (kK HO_5) hb); replace BK399 := Aside0.mk (blk_below (g := gb399) (o := .cells #[.int .i64 x400000_3, .int .i64 x400001_3] 25 (0, 0)) (bK BK399) hb); replace HB := Aside0.mk (below_step zB hb); (try clear hb); (try clear hb2); (try clear hk); (try clear hi)) | ((with_reducible refine gate_dst (N := 6) rfl ?_); (try (refine gate_guard Z67 ?_; dsimp only)); refine box_event ?hg (N := 6) ?hd (cs := #[.int .i64 0, .int .i64 0]) (t := 55) ?hr ?_; (case hd => rfl); (case hg => rfl); (case hr => first | (go_simp; done) | (go_simp; rfl)); intro gb402 hg w17 hbox hb; have n0_ := Aside0.mk (Kd.R_below (kK HO_5) hb); have n1_ := Aside0.mk (blk_below (g := gb399) (o := .cells #[.int .i64 x400000_3, .int .i64 x400001_3] 25 (0, 0)) (bK BK399) hb); have n2_ := Aside0.mk (below_step zB hb); have n3_ := Aside0.mk (hbox); have n4_ := gE hg zB; have n5_ := gE hg zB; have n6_ := Aside0.mk ((by rw [hg]; exact Nat.ne_of_lt (blk_lt (g := gb399) (o := .cells #[.int .i64 x400000_3, .int .i64 x400001_3] 25 (0, 0)) (bK BK399)) : gb399 ≠ gb402)); have n7_ := Aside0.mk ((by rw [hg]; exact Nat.ne_of_gt (blk_lt (g := gb399) (o := .cells #[.int .i64 x400000_3, .int .i64 x400001_3] 25 (0, 0)) (bK BK399)) : gb402 ≠ gb399)); clear HO_5; clear BK399; clear HB; have HO_5 := n0_; have BK399 := n1_; have HB := n2_; have BK402 := n3_; have GW402 := n4_; have GE402 := n5_; have NB399_402 := n6_; have NB402_399 := n7_; clear n0_ n1_ n2_ n3_ n4_ n5_ n6_ n7_; clear hb hbox hg; have hnb18 := NB402_399.out; have hnc18 := NB399_402.out; have hcz19_0 := bC BK402 0 (.int .i64 0); have hcz19_1 := bC BK402 1 (.int .i64 0); have hfz19_0 := blk_frozen BK402.out 0; have hfz19_1 := blk_frozen BK402.out 1) | (refine gR (some 35) Try.func32 (quoinref01_Next.calls A14.out) (h := ?_); rintro w20 hb; have n0_ := Aside0.mk (Kd.R_below (by (with_reducible repeat (first | apply Kd.R_alloc | apply Kd.R_drewN | apply Kd.R_drew)); exact (Kd.R_mono (Kd.R_far (p := ⟨gb402, 1, none⟩) (Kd.R_far (p := ⟨gb402, 0, none⟩) (Kd.R_types HO_5.out BK402.out Z43) (fun _ hk => hk.2) (.int .i64 t400)) (fun _ hk => hk.2) (.int .i64 t401)) (fun _ h_ => h_.1))) hb); have n1_ := Aside0.mk (blk_below (g := gb399) (o := .cells #[.int .i64 x400000_3, .int .i64 x400001_3] 25 (0, 0)) Z28 hb); have n2_ := Aside0.mk (blk_below (g := gb402) (o := .cells #[.int .i64 t400, .int .i64 t401] 55 (0, 0)) Z25 hb); have n3_ := Aside0.mk (below_step zB hb); clear HO_5; clear BK399; clear BK402; clear HB; have HO_5 := n0_; have BK399 := n1_; have BK402 := n2_; have HB := n3_; clear n0_ n1_ n2_ n3_; (try clear hb); (try clear hb2); (try clear hk); (try clear hi); have hcz21_0 := bC BK399 0 (.int .i64 x400000_3); have hcz21_1 := bC BK399 1 (.int .i64 x400001_3); have hfz21_0 := blk_frozen BK399.out 0; have hfz21_1 := blk_frozen BK399.out 1))
           refine bodyPost_ret (results_tc rfl _ _ gb399 25 #[.int .i64 60, .int .i64 x4_3] (0, 0) _ rfl (by (with_reducible repeat (first | refine blk_drewN ?_ _ | refine blk_drew ?_ | refine blk_alloc ?_ _)); refine blk_put (cs := #[.int .i64 60, .int .i64 x400001_3]) ?_ 1 _ rfl; (with_reducible repeat (first | refine blk_drewN ?_ _ | refine blk_drew ?_ | refine blk_alloc ?_ _)); refine blk_put (cs := #[.int .i64 x400000_3, .int .i64 x400001_3]) ?_ 0 _ rfl; (with_reducible repeat (first | refine blk_drewN ?_ _ | refine blk_drew ?_ | refine blk_alloc ?_ _)); exact BK399.out) Try.underlying25 rfl Z5) rfl ?_
           exact ⟨_, Z2, Z10, Z0⟩
          ·replace c15 := Bool.eq_false_iff.mpr c15
           subst c15
           have H1 : (some (([] : List (S36)), 10, x4_3)) = some (r1, r2, r3) := by rw [if_neg (show ¬ (false = true) by decide)] at H; exact H
           clear H
           have H := H1
           clear H1
           simp only [Option.some.injEq, Prod.mk.injEq] at H
           obtain ⟨rfl, rfl, rfl⟩ := H
           go_wp2_with (first | (refine gR (some 28) Try.func31 (quoinref26_match.calls A12.out) (h := ?_); rintro w22 hb; replace HO_5 := Aside0.mk (Kd.R_below (kK HO_5) hb); replace BK399 := Aside0.mk (blk_below (g := gb399) (o := .cells #[.int .i64 x400000_3, .int .i64 x400001_3] 25 (0, 0)) (bK BK399) hb); replace HB := Aside0.mk (below_step zB hb); (try clear hb); (try clear hb2); (try clear hk); (try clear hi)) | ((with_reducible refine gate_dst (N := 6) rfl ?_); (try (refine gate_guard Z67 ?_; dsimp only)); refine box_event ?hg (N := 6) ?hd (cs := #[.int .i64 0, .int .i64 0]) (t := 55) ?hr ?_; (case hd => rfl); (case hg => rfl); (case hr => first | (go_simp; done) | (go_simp; rfl)); intro gb402 hg w23 hbox hb; have n0_ := Aside0.mk (Kd.R_below (kK HO_5) hb); have n1_ := Aside0.mk (blk_below (g := gb399) (o := .cells #[.int .i64 x400000_3, .int .i64 x400001_3] 25 (0, 0)) (bK BK399) hb); have n2_ := Aside0.mk (below_step zB hb); have n3_ := Aside0.mk (hbox); have n4_ := gE hg zB; have n5_ := gE hg zB; have n6_ := Aside0.mk ((by rw [hg]; exact Nat.ne_of_lt (blk_lt (g := gb399) (o := .cells #[.int .i64 x400000_3, .int .i64 x400001_3] 25 (0, 0)) (bK BK399)) : gb399 ≠ gb402)); have n7_ := Aside0.mk ((by rw [hg]; exact Nat.ne_of_gt (blk_lt (g := gb399) (o := .cells #[.int .i64 x400000_3, .int .i64 x400001_3] 25 (0, 0)) (bK BK399)) : gb402 ≠ gb399)); clear HO_5; clear BK399; clear HB; have HO_5 := n0_; have BK399 := n1_; have HB := n2_; have BK402 := n3_; have GW402 := n4_; have GE402 := n5_; have NB399_402 := n6_; have NB402_399 := n7_; clear n0_ n1_ n2_ n3_ n4_ n5_ n6_ n7_; clear hb hbox hg; have hnb24 := NB402_399.out; have hnc24 := NB399_402.out; have hcz25_0 := bC BK402 0 (.int .i64 0); have hcz25_1 := bC BK402 1 (.int .i64 0); have hfz25_0 := blk_frozen BK402.out 0; have hfz25_1 := blk_frozen BK402.out 1) | (refine gR (some 35) Try.func32 (quoinref01_Next.calls A14.out) (h := ?_); rintro w26 hb; have n0_ := Aside0.mk (Kd.R_below (by (with_reducible repeat (first | apply Kd.R_alloc | apply Kd.R_drewN | apply Kd.R_drew)); exact (Kd.R_mono (Kd.R_far (p := ⟨gb402, 1, none⟩) (Kd.R_far (p := ⟨gb402, 0, none⟩) (Kd.R_types HO_5.out BK402.out Z43) (fun _ hk => hk.2) (.int .i64 t400)) (fun _ hk => hk.2) (.int .i64 t401)) (fun _ h_ => h_.1))) hb); have n1_ := Aside0.mk (blk_below (g := gb399) (o := .cells #[.int .i64 x400000_3, .int .i64 x400001_3] 25 (0, 0)) Z28 hb); have n2_ := Aside0.mk (blk_below (g := gb402) (o := .cells #[.int .i64 t400, .int .i64 t401] 55 (0, 0)) Z25 hb); have n3_ := Aside0.mk (below_step zB hb); clear HO_5; clear BK399; clear BK402; clear HB; have HO_5 := n0_; have BK399 := n1_; have BK402 := n2_; have HB := n3_; clear n0_ n1_ n2_ n3_; (try clear hb); (try clear hb2); (try clear hk); (try clear hi); have hcz27_0 := bC BK399 0 (.int .i64 x400000_3); have hcz27_1 := bC BK399 1 (.int .i64 x400001_3); have hfz27_0 := blk_frozen BK399.out 0; have hfz27_1 := blk_frozen BK399.out 1))
           refine bodyPost_ret (results_tc rfl _ _ gb399 25 #[.int .i64 10, .int .i64 x4_3] (0, 0) _ rfl (by (with_reducible repeat (first | refine blk_drewN ?_ _ | refine blk_drew ?_ | refine blk_alloc ?_ _)); refine blk_put (cs := #[.int .i64 10, .int .i64 x400001_3]) ?_ 1 _ rfl; (with_reducible repeat (first | refine blk_drewN ?_ _ | refine blk_drew ?_ | refine blk_alloc ?_ _)); refine blk_put (cs := #[.int .i64 x400000_3, .int .i64 x400001_3]) ?_ 0 _ rfl; (with_reducible repeat (first | refine blk_drewN ?_ _ | refine blk_drew ?_ | refine blk_alloc ?_ _)); exact BK399.out) Try.underlying25 rfl Z5) rfl ?_
           exact ⟨_, Z2, Z10, Z0⟩
         ·rw [if_neg c13] at H
          have c13b0 := decide_eq_false c13
          clear c13
          have HC28 := Aside0.mk H
          clear H
          go_upto_region 14 with (first | (refine gR (some 28) Try.func31 (quoinref26_match.calls A12.out) (h := ?_); rintro w29 hb; replace HO_5 := Aside0.mk (Kd.R_below (kK HO_5) hb); replace BK399 := Aside0.mk (blk_below (g := gb399) (o := .cells #[.int .i64 x400000_3, .int .i64 x400001_3] 25 (0, 0)) (bK BK399) hb); replace HB := Aside0.mk (below_step zB hb); (try clear hb); (try clear hb2); (try clear hk); (try clear hi)) | ((with_reducible refine gate_dst (N := 6) rfl ?_); (try (refine gate_guard Z67 ?_; dsimp only)); refine box_event ?hg (N := 6) ?hd (cs := #[.int .i64 0, .int .i64 0]) (t := 55) ?hr ?_; (case hd => rfl); (case hg => rfl); (case hr => first | (go_simp; done) | (go_simp; rfl)); intro gb402 hg w30 hbox hb; have n0_ := Aside0.mk (Kd.R_below (kK HO_5) hb); have n1_ := Aside0.mk (blk_below (g := gb399) (o := .cells #[.int .i64 x400000_3, .int .i64 x400001_3] 25 (0, 0)) (bK BK399) hb); have n2_ := Aside0.mk (below_step zB hb); have n3_ := Aside0.mk (hbox); have n4_ := gE hg zB; have n5_ := gE hg zB; have n6_ := Aside0.mk ((by rw [hg]; exact Nat.ne_of_lt (blk_lt (g := gb399) (o := .cells #[.int .i64 x400000_3, .int .i64 x400001_3] 25 (0, 0)) (bK BK399)) : gb399 ≠ gb402)); have n7_ := Aside0.mk ((by rw [hg]; exact Nat.ne_of_gt (blk_lt (g := gb399) (o := .cells #[.int .i64 x400000_3, .int .i64 x400001_3] 25 (0, 0)) (bK BK399)) : gb402 ≠ gb399)); clear HO_5; clear BK399; clear HB; have HO_5 := n0_; have BK399 := n1_; have HB := n2_; have BK402 := n3_; have GW402 := n4_; have GE402 := n5_; have NB399_402 := n6_; have NB402_399 := n7_; clear n0_ n1_ n2_ n3_ n4_ n5_ n6_ n7_; clear hb hbox hg; have hnb31 := NB402_399.out; have hnc31 := NB399_402.out; have hcz32_0 := bC BK402 0 (.int .i64 0); have hcz32_1 := bC BK402 1 (.int .i64 0); have hfz32_0 := blk_frozen BK402.out 0; have hfz32_1 := blk_frozen BK402.out 1))
          (try simp only [Act.put, List.setIfInBounds_toArray, List.set_cons_zero, List.set_cons_succ])
          go_cut [51] (fun v51 wc => ∃ (kq : Nat) (x51_27 : Bool), v51 = .bool x51_27 ∧ Aside0 (quoinref26_Raw.j3 kq a0 x4_3 x5_3 x51_27 t400 t401 = some (r1, r2, r3)) ∧ Aside0 (kq ≤ k3) ∧ Aside0 (Kd.R k36 36 wc w.heap.size (fun _ => True) u5 x5_3) ∧ Aside0 (wc.heap[gb399]? = some (.cells #[.int .i64 x400000_3, .int .i64 x400001_3] 25 (0, 0))) ∧ Aside0 (wc.heap[gb402]? = some (.cells #[.int .i64 t400, .int .i64 t401] 55 (0, 0))) ∧ Aside0 (Below w.heap.size w wc))
          case first =>
           have H := HC28.out
           clear HC28
           by_cases c33 : t400 > 0
           ·rw [if_pos c33] at H
            have c33b0 : decide (0 < t400) = true := decide_eq_true c33
            clear c33
            (first | rw [c33b0] | (simp only [i64_w, i32_w]; rw [c33b0]) | skip)
            have H' := Aside0.mk H
            clear H
            have hnb34 := NB402_399.out
            have hnc34 := NB399_402.out
            have hcz35_0 := bC BK402 0 (.int .i64 0)
            have hcz35_1 := bC BK402 1 (.int .i64 0)
            have hfz35_0 := blk_frozen BK402.out 0
            have hfz35_1 := blk_frozen BK402.out 1
            obtain ⟨Ao36, co36, eo36⟩ := Kd.R_slice HO_5.out
            subst eo36
            go_wp2
            go_meet
            case rel => exact ⟨_, (decide ((x5_3.length : Int) ≥ 65536)), Z1, H', ⟨by have := HJ4.out; have := HJ8.out; have := HK3.out; first | omega | exact Nat.le_refl _⟩, ⟨by (with_reducible repeat (first | apply Kd.R_alloc | apply Kd.R_drewN | apply Kd.R_drew)); exact Kd.R_mono (Kd.R_far (p := ⟨gb402, 1, none⟩) (Kd.R_far (p := ⟨gb402, 0, none⟩) (Kd.R_types HO_5.out BK402.out Z43) (fun _ hk => hk.2) (.int .i64 t400)) (fun _ hk => hk.2) (.int .i64 t401)) (fun _ hk => trivial)⟩, ⟨Z28⟩, ⟨Z25⟩, ⟨Z0⟩⟩
           ·rw [if_neg c33] at H
            have c33b0 : decide (0 < t400) = false := decide_eq_false c33
            clear c33
            (first | rw [c33b0] | (simp only [i64_w, i32_w]; rw [c33b0]) | skip)
            have H' := Aside0.mk H
            clear H
            have hnb37 := NB402_399.out
            have hnc37 := NB399_402.out
            have hcz38_0 := bC BK402 0 (.int .i64 0)
            have hcz38_1 := bC BK402 1 (.int .i64 0)
            have hfz38_0 := blk_frozen BK402.out 0
            have hfz38_1 := blk_frozen BK402.out 1
            go_wp2
            go_meet
            case rel => exact ⟨_, (false), Z1, H', ⟨by have := HJ4.out; have := HJ8.out; have := HK3.out; first | omega | exact Nat.le_refl _⟩, ⟨by (with_reducible repeat (first | apply Kd.R_alloc | apply Kd.R_drewN | apply Kd.R_drew)); exact Kd.R_mono (Kd.R_far (p := ⟨gb402, 1, none⟩) (Kd.R_far (p := ⟨gb402, 0, none⟩) (Kd.R_types HO_5.out BK402.out Z43) (fun _ hk => hk.2) (.int .i64 t400)) (fun _ hk => hk.2) (.int .i64 t401)) (fun _ hk => trivial)⟩, ⟨Z28⟩, ⟨Z25⟩, ⟨Z0⟩⟩
          case rest =>
           clear HC28
           try clear c1
           try clear c2
           try clear c2b0
           try clear c2b1
           try clear p2
           try clear c3
           try clear c7
           try clear c7b0
           try clear c7b1
           try clear c8
           try clear c8b0
           try clear c8b1
           try clear c10
           try clear c11
           try clear c11b0
           try clear c13
           try clear c13b0
           try clear c15
           try clear c18
           try clear c24
           try clear c31
           try clear c32
           try clear c33
           try clear c33b0
           try clear c34
           try clear c37
           try clear hcz19_0
           try clear hcz19_1
           try clear hcz21_0
           try clear hcz21_1
           try clear hcz25_0
           try clear hcz25_1
           try clear hcz27_0
           try clear hcz27_1
           try clear hcz32_0
           try clear hcz32_1
           try clear hcz35_0
           try clear hcz35_1
           try clear hcz38_0
           try clear hcz38_1
           try clear hcz4_0
           try clear hcz4_1
           try clear hfz19_0
           try clear hfz19_1
           try clear hfz21_0
           try clear hfz21_1
           try clear hfz25_0
           try clear hfz25_1
           try clear hfz27_0
           try clear hfz27_1
           try clear hfz32_0
           try clear hfz32_1
           try clear hfz35_0
           try clear hfz35_1
           try clear hfz38_0
           try clear hfz38_1
           try clear hfz4_0
           try clear hfz4_1
           try clear p2
           obtain ⟨kq, x51_27, rfl, HA, HJ27, HO_5, BK399, BK402, HB⟩ := hcut
           cases kq with
           | zero => exact absurd HA.out (by simp [quoinref26_Raw.j3])
           | succ kj27 =>
            have H := HA.out
            clear HA
            simp only [quoinref26_Raw.j3] at H
            by_cases c39 : x51_27 = true
            ·subst c39
             have H1 : (some (([] : List (S36)), 3, x4_3)) = some (r1, r2, r3) := by rw [if_pos rfl] at H; exact H
             clear H
             have H := H1
             clear H1
             simp only [Option.some.injEq, Prod.mk.injEq] at H
             obtain ⟨rfl, rfl, rfl⟩ := H
             have hnb40 := NB399_402.out
             have hnc40 := NB402_399.out
             have hcz41_0 := bC BK399 0 (.int .i64 x400000_3)
             have hcz41_1 := bC BK399 1 (.int .i64 x400001_3)
             have hfz41_0 := blk_frozen BK399.out 0
             have hfz41_1 := blk_frozen BK399.out 1
             go_wp2
             refine bodyPost_ret (results_tc rfl _ _ gb399 25 #[.int .i64 3, .int .i64 x4_3] (0, 0) _ rfl (by (with_reducible repeat (first | refine blk_drewN ?_ _ | refine blk_drew ?_ | refine blk_alloc ?_ _)); refine blk_put (cs := #[.int .i64 3, .int .i64 x400001_3]) ?_ 1 _ rfl; (with_reducible repeat (first | refine blk_drewN ?_ _ | refine blk_drew ?_ | refine blk_alloc ?_ _)); refine blk_put (cs := #[.int .i64 x400000_3, .int .i64 x400001_3]) ?_ 0 _ rfl; (with_reducible repeat (first | refine blk_drewN ?_ _ | refine blk_drew ?_ | refine blk_alloc ?_ _)); exact BK399.out) Try.underlying25 rfl Z5) rfl ?_
             exact ⟨_, Z2, Z10, Z0⟩
            ·replace c39 := Bool.eq_false_iff.mpr c39
             subst c39
             have H1 : (if t400 > 0 then (if x5_3.length < 5864062014805 then (quoinref26_Raw.l0 kj27 a0 t401 (x5_3 ++ [(⟨t400, x4_3, t401⟩ : S36)])) else (none)) else (quoinref26_Raw.l0 kj27 a0 t401 x5_3)) = some (r1, r2, r3) := by rw [if_neg (show ¬ (false = true) by decide)] at H; exact H
             clear H
             have H := H1
             clear H1
             by_cases c42 : t400 > 0
             ·rw [if_pos c42] at H
              have c42b0 : decide (0 < t400) = true := decide_eq_true c42
              clear c42
              by_cases c43 : x5_3.length < 5864062014805
              ·rw [if_pos c43] at H
               have LMc43 := Aside0.mk c43
               clear c43
               obtain ⟨y406, hy406⟩ : ∃ y_ : List (S36), y_ = (x5_3 ++ [(⟨t400, x4_3, t401⟩ : S36)]) := ⟨_, rfl⟩
               replace H : (quoinref26_Raw.l0 kj27 a0 t401 y406) = some (r1, r2, r3) := by first | (rw [hy406]; with_reducible exact H) | (have H2_ := (Option.bind_some _ _).symm.trans H; rw [hy406]; with_reducible exact H2_) | (have H2_ := (Option.bind_some _ _).symm.trans H; with_reducible exact H2_) | with_reducible exact H | (rw [hy406]; exact H) | exact H
               have Ny406 := Aside0.mk hy406
               clear hy406
               have H' := Aside0.mk H
               clear H
               have hnb44 := NB402_399.out
               have hnc44 := NB399_402.out
               have hcz45_0 := bC BK402 0 (.int .i64 t400)
               have hcz45_1 := bC BK402 1 (.int .i64 t401)
               have hfz45_0 := blk_frozen BK402.out 0
               have hfz45_1 := blk_frozen BK402.out 1
               go_wp2_with (first | ((with_reducible refine gate_builtin (b := .append) (xs := #[.tmp 57, .tmp 64]) rfl ?_); (try (refine gate_guard Z67 ?_; dsimp only)); at_builtin; refine Kd.R_append k36 (w0 := w) w.heap.size rfl (.tmp 57) (.tmp 64) 22 36 (.agg #[(.int .i64 0), (.int .i64 0), (.int .i64 0)]) 24 rfl Try.underlying22 info36 rfl Z43 Z57 u5 x5_3 (⟨t400, x4_3, t401⟩ : S36) [.int .i64 t400, .int .i64 x4_3, .int .i64 t401] (fun _ => True) (fun _ => False) rfl rfl ?aP (fun _ hk => hk.elim) ?aF ?aO ?aB ?aS ?aL ?_; (case aP => exact k36_mkM _ _ _ (⟨t400, x4_3, t401⟩ : S36)); (case aB => exact zB); (case aF => exact (fun _ _ => trivial)); (case aO => exact (kK HO_5)); (case aS => exact (below_size zB)); (case aL => have := LMc43.out; omega); intro v407 w46 ho hb hg hat; rw [← Ny406.out] at ho; have n0_ := Aside0.mk (blk_grown (g := gb399) (o := .cells #[.int .i64 x400000_3, .int .i64 x400001_3] 25 (0, 0)) (bK BK399) hg (Kd.R_ne HO_5.out BK399.out Z43)); have n1_ := Aside0.mk (blk_grown (g := gb402) (o := .cells #[.int .i64 t400, .int .i64 t401] 55 (0, 0)) (bK BK402) hg (Kd.R_ne HO_5.out BK402.out Z43)); have n2_ := Aside0.mk (hb); have n3_ := Aside0.mk (ho); clear BK399; clear BK402; clear HB; clear HO_5; have BK399 := n0_; have BK402 := n1_; have HB := n2_; have HO408 := n3_; clear n0_ n1_ n2_ n3_; clear ho hb hg hat; have hcz47_0 := bC BK402 0 (.int .i64 t400); have hcz47_1 := bC BK402 1 (.int .i64 t401); have hfz47_0 := blk_frozen BK402.out 0; have hfz47_1 := blk_frozen BK402.out 1))
               go_roundg kj27
               case measure => have := HJ4.out; have := HJ8.out; have := HK3.out; have := HJ27.out; omega
               case rel => exact ⟨(t401), (y406), (x400000_3), (x400001_3), Z1, H', ⟨by have := HJ4.out; have := HJ8.out; have := HK3.out; have := HJ27.out; omega⟩, ⟨by (with_reducible repeat (first | apply Kd.R_alloc | apply Kd.R_drewN | apply Kd.R_drew)); exact HO408.out⟩, ⟨Z54⟩, ⟨Z0⟩⟩
              ·rw [if_neg c43] at H
               exact absurd H Z61
             ·rw [if_neg c42] at H
              have c42b0 : decide (0 < t400) = false := decide_eq_false c42
              clear c42
              have H' := Aside0.mk H
              clear H
              have hnb48 := NB402_399.out
              have hnc48 := NB399_402.out
              have hcz49_0 := bC BK402 0 (.int .i64 t400)
              have hcz49_1 := bC BK402 1 (.int .i64 t401)
              have hfz49_0 := blk_frozen BK402.out 0
              have hfz49_1 := blk_frozen BK402.out 1
              go_wp2
              go_roundg kj27
              case measure => have := HJ4.out; have := HJ8.out; have := HK3.out; have := HJ27.out; omega
              case rel => exact ⟨(t401), (x5_3), (x400000_3), (x400001_3), Z1, H', ⟨by have := HJ4.out; have := HJ8.out; have := HK3.out; have := HJ27.out; omega⟩, ⟨Z20⟩, ⟨Z54⟩, ⟨Z0⟩⟩
        ·rw [if_neg c11] at H
         have c11b0 := decide_eq_false c11
         clear c11
         simp only [Option.some.injEq, Prod.mk.injEq] at H
         obtain ⟨rfl, rfl, rfl⟩ := H
         have hcz50_0 := bC BK399 0 (.int .i64 x400000_3)
         have hcz50_1 := bC BK399 1 (.int .i64 x400001_3)
         have hfz50_0 := blk_frozen BK399.out 0
         have hfz50_1 := blk_frozen BK399.out 1
         go_wp2
         refine bodyPost_ret (results_tc rfl _ _ gb399 25 #[.int .i64 0, .int .i64 0] (0, 0) _ rfl (by (with_reducible repeat (first | refine blk_drewN ?_ _ | refine blk_drew ?_ | refine blk_alloc ?_ _)); refine blk_put (cs := #[.int .i64 0, .int .i64 x400001_3]) ?_ 1 _ rfl; (with_reducible repeat (first | refine blk_drewN ?_ _ | refine blk_drew ?_ | refine blk_alloc ?_ _)); refine blk_put (cs := #[.int .i64 x400000_3, .int .i64 x400001_3]) ?_ 0 _ rfl; (with_reducible repeat (first | refine blk_drewN ?_ _ | refine blk_drew ?_ | refine blk_alloc ?_ _)); exact BK399.out) Try.underlying25 rfl Z5) rfl ?_
         exact ⟨_, Z2, by (with_reducible repeat (first | apply Kd.R_alloc | apply Kd.R_drewN | apply Kd.R_drew)); exact Kd.R_mono (Kd.R_far (p := ⟨gb399, 1, none⟩) (Kd.R_far (p := ⟨gb399, 0, none⟩) (Kd.R_types HO_5.out BK399.out Z43) (fun _ hk => hk.2) (.int .i64 0)) (fun _ hk => hk.2) (.int .i64 0)) (fun _ hk => trivial), Z0⟩
end Go.Proofs.Ytcajiapjdlphmaa.H
