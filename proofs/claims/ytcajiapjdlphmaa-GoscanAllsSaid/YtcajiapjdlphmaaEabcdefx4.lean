import Derived.Test.YtcajiapjdlphmaaEPre
import Derived.Test.YtcajiapjdlphmaaEabcdefx0
import Derived.Test.YtcajiapjdlphmaaEabcdefx3
namespace Go.Proofs.Ytcajiapjdlphmaa.H
open Go.RowKit Go.Proofs.YtcajiapjdlphmaaW.PrintWords Go.Proofs.YtcajiapjdlphmaaW.PrintLast Go.Proofs.YtcajiapjdlphmaaW.PrintMore
attribute [local go_sem] max2_int min2_int max_two min_two max_three min_three max_four min_four
set_option linter.unusedVariables false
set_option linter.unusedSimpArgs false
mutual
def goscan_Raw.j0 : Nat → ByteArray → List (S36) → Int → Option ((List (S36)) × Int × Int)
 | 0, _, _, _ => none
 | k + 1, x0, x4, x5 => goscan_Raw.l0 k x0 x4 x5
def goscan_Raw.l0 : Nat → ByteArray → List (S36) → Int → Option ((List (S36)) × Int × Int)
 | 0, _, _, _ => none
 | k + 1, x0, x4, x5 => if x5 < (x0.size : Int) then ((goscan_next.f k x0 x5).bind fun bt225 => (if bt225.2.2.2 = true then (if bt225.1 > 0 then (if (x4.length : Int) ≥ 65536 then (some (([] : List (S36)), 3, x5)) else (if x4.length < 5864062014805 then (goscan_Raw.l0 k x0 (x4 ++ [(⟨bt225.1, bt225.2.1, bt225.2.2.1⟩ : S36)]) bt225.2.2.1) else (none))) else (goscan_Raw.l0 k x0 x4 bt225.2.2.1)) else ((text_Next.f x0 x5).bind fun bt230 => (if bt230.2.2 = true then (some (([] : List (S36)), 60, x5)) else (some (([] : List (S36)), 10, x5)))))) else (some (x4, 0, 0))
end
def goscan_Raw.f (k : Nat) (a0 : ByteArray) : Option ((List (S36)) × Int × Int) := if (a0.size : Int) > 262144 then (some (([] : List (S36)), 3, 0)) else ((strings_HasPrefix.f a0 (⟨#[239, 187, 191]⟩ : ByteArray)).bind fun t224 => (if t224 = true then (goscan_Raw.j0 k a0 ([] : List (S36)) 3) else (goscan_Raw.j0 k a0 ([] : List (S36)) 0)))
theorem goscan_Raw.mono_l : ∀ k, (∀ y0 y1 y2, LeO (goscan_Raw.j0 k y0 y1 y2) (goscan_Raw.j0 (k + 1) y0 y1 y2)) ∧ (∀ y0 y1 y2, LeO (goscan_Raw.l0 k y0 y1 y2) (goscan_Raw.l0 (k + 1) y0 y1 y2))
 | 0 => ⟨fun _ _ _ r h => by simp [goscan_Raw.j0] at h, fun _ _ _ r h => by simp [goscan_Raw.l0] at h⟩
 | k + 1 => by
  obtain ⟨ih0, ih1⟩ := goscan_Raw.mono_l k
  refine ⟨?_, ?_⟩
  ·intro y0 y1 y2
   unfold goscan_Raw.j0
   have m0 := @goscan_next.mono
   exact mO
  ·intro y0 y1 y2
   unfold goscan_Raw.l0
   have m0 := @goscan_next.mono
   exact mO
theorem goscan_Raw.mono : ∀ a0 k, LeO (goscan_Raw.f k a0) (goscan_Raw.f (k + 1) a0) := by
 intro a0 k
 obtain ⟨ih0, ih1⟩ := goscan_Raw.mono_l k
 unfold goscan_Raw.f
 have m0 := @goscan_next.mono
 exact mO
set_option maxHeartbeats 8000000 in
set_option maxRecDepth 100000 in
theorem goscan_Raw.calls {k : Nat} {a0 : ByteArray} {r1 : List (S36)} {r2 : Int} {r3 : Int} {w : World} (h : goscan_Raw.f k a0 = some (r1, r2, r3)) :
  Calls Try.prog 9 #[.string a0] w fun e w' => ∃ v0_ : Value, e = .returned (.tuple #[v0_, .agg #[.int .i64 r2, .int .i64 r3]]) ∧ Kd.R k36 36 w' w.heap.size (fun _ => True) v0_ r1 ∧ Below w.heap.size w w' := by
 have hu25 := Try.underlying25
 have hu36 := Try.underlying36
 have HB := Aside0.mk (Below.refl w.heap.size w)
 have H : (if (a0.size : Int) > 262144 then (some (([] : List (S36)), 3, 0)) else ((strings_HasPrefix.f a0 (⟨#[239, 187, 191]⟩ : ByteArray)).bind fun t224 => (if t224 = true then (goscan_Raw.j0 k a0 ([] : List (S36)) 3) else (goscan_Raw.j0 k a0 ([] : List (S36)) 0)))) = some (r1, r2, r3) := h
 clear h
 by_cases c2 : (a0.size : Int) > 262144
 ·rw [if_pos c2] at H
  have c2b0 : decide (262144 < (a0.size : Int)) = true := decide_eq_true c2
  have c2b1 : decide (262144 < a0.size) = true := decide_eq_true Z57
  clear c2
  simp only [Option.some.injEq, Prod.mk.injEq] at H
  obtain ⟨rfl, rfl, rfl⟩ := H
  go_enter Try.func9, Try.ntmps9
  go_wp2_with (first | ((with_reducible refine gate_dst (N := 3) rfl ?_); refine box_event ?hg (N := 3) ?hd (cs := #[.int .i64 0, .int .i64 0]) (t := 25) ?hr ?_; (case hd => rfl); (case hg => rfl); (case hr => first | (go_simp; done) | (go_simp; rfl)); intro gb223 hg w3 hbox hb; have BK223 := Aside0.mk (hbox); have GW223 := gE hg zB; have GE223 := gE hg zB; replace HB := Aside0.mk (below_step zB hb); clear hb hbox hg; have hcz4_0 := bC BK223 0 (.int .i64 0); have hcz4_1 := bC BK223 1 (.int .i64 0); have hfz4_0 := blk_frozen BK223.out 0; have hfz4_1 := blk_frozen BK223.out 1))
  refine bodyPost_ret (results_tc rfl _ _ gb223 25 #[.int .i64 3, .int .i64 0] (0, 0) _ rfl (by (with_reducible repeat (first | refine blk_drewN ?_ _ | refine blk_drew ?_ | refine blk_alloc ?_ _)); refine blk_put (cs := #[.int .i64 3, .int .i64 0]) ?_ 1 _ rfl; (with_reducible repeat (first | refine blk_drewN ?_ _ | refine blk_drew ?_ | refine blk_alloc ?_ _)); refine blk_put (cs := #[.int .i64 0, .int .i64 0]) ?_ 0 _ rfl; (with_reducible repeat (first | refine blk_drewN ?_ _ | refine blk_drew ?_ | refine blk_alloc ?_ _)); exact BK223.out) Try.underlying25 rfl Z5) rfl ?_
  exact ⟨_, Z2, Z10, Z0⟩
 ·rw [if_neg c2] at H
  have c2b0 : decide (262144 < (a0.size : Int)) = false := decide_eq_false c2
  have c2b1 : decide (262144 < a0.size) = false := decide_eq_false Z57
  clear c2
  replace H := bS H
  obtain ⟨t224, A5, H⟩ := H
  try dsimp only at H
  have HC6 := Aside0.mk H
  clear H
  go_enter Try.func9, Try.ntmps9
  go_upto_if 16 with (first | ((with_reducible refine gate_dst (N := 3) rfl ?_); refine box_event ?hg (N := 3) ?hd (cs := #[.int .i64 0, .int .i64 0]) (t := 25) ?hr ?_; (case hd => rfl); (case hg => rfl); (case hr => first | (go_simp; done) | (go_simp; rfl)); intro gb223 hg w7 hbox hb; have BK223 := Aside0.mk (hbox); have GW223 := gE hg zB; have GE223 := gE hg zB; replace HB := Aside0.mk (below_step zB hb); clear hb hbox hg) | (refine gR (some 16) Try.func28 (strings_HasPrefix.calls A5.out) (h := ?_); rintro _ ⟨nd, rfl⟩))
  (try simp only [Act.put, List.setIfInBounds_toArray, List.set_cons_zero, List.set_cons_succ])
  go_cut [5] (fun v5 wc => ∃ (kq : Nat) (x5_5 : Int), v5 = .int .i64 x5_5 ∧ Aside0 (goscan_Raw.j0 kq a0 ([] : List (S36)) x5_5 = some (r1, r2, r3)) ∧ Aside0 (kq ≤ k) ∧ Aside0 (Kd.R k36 36 wc w.heap.size (fun _ => True) (.slice none 0 0) ([] : List (S36))) ∧ Aside0 (wc.heap[gb223]? = some (.cells #[.int .i64 0, .int .i64 0] 25 (0, 0))) ∧ Aside0 (Below w.heap.size w wc))
  case first =>
   have H := HC6.out
   clear HC6
   by_cases c8 : t224 = true
   ·subst c8
    have H1 : (goscan_Raw.j0 k a0 ([] : List (S36)) 3) = some (r1, r2, r3) := by rw [if_pos rfl] at H; exact H
    clear H
    have H := H1
    clear H1
    have H' := Aside0.mk H
    clear H
    go_wp2
    go_meet
    case rel => exact ⟨_, (3), Z1, H', ⟨Z26⟩, ⟨Z10⟩, ⟨Z66⟩, ⟨Z0⟩⟩
   ·replace c8 := Bool.eq_false_iff.mpr c8
    subst c8
    have H1 : (goscan_Raw.j0 k a0 ([] : List (S36)) 0) = some (r1, r2, r3) := by rw [if_neg (show ¬ (false = true) by decide)] at H; exact H
    clear H
    have H := H1
    clear H1
    have H' := Aside0.mk H
    clear H
    go_wp2
    go_meet
    case rel => exact ⟨_, (0), Z1, H', ⟨Z26⟩, ⟨Z10⟩, ⟨Z66⟩, ⟨Z0⟩⟩
  case rest =>
   clear HC6
   try clear c2
   try clear c2b0
   try clear c2b1
   try clear p2
   try clear c8
   try clear hcz4_0
   try clear hcz4_1
   try clear hfz4_0
   try clear hfz4_1
   obtain ⟨kq, x5_5, rfl, HA, HJ5, HO_4, BK223, HB⟩ := hcut
   cases kq with
   | zero => exact absurd HA.out (by simp [goscan_Raw.j0])
   | succ kj5 =>
    have H := HA.out
    clear HA
    simp only [goscan_Raw.j0] at H
    have H' := Aside0.mk H
    clear H
    go_wp2
    go_loopg [4, 5] kj5 (fun kq v4 v5 w' => ∃ (x4_2 : List (S36)) (x5_2 : Int) (x224000_2 : Int) (x224001_2 : Int), v5 = .int .i64 x5_2 ∧ Aside0 (goscan_Raw.l0 kq a0 x4_2 x5_2 = some (r1, r2, r3)) ∧ Aside0 (kq ≤ kj5) ∧ Aside0 (Kd.R k36 36 w' w.heap.size (fun _ => True) v4 x4_2) ∧ Aside0 (w'.heap[gb223]? = some (.cells #[.int .i64 x224000_2, .int .i64 x224001_2] 25 (0, 0))) ∧ Aside0 (Below w.heap.size w w'))
    case atStart => exact ⟨(([] : List (S36))), (x5_5), (0), (0), Z1, H', ⟨Nat.le_refl _⟩, ⟨by (with_reducible repeat (first | apply Kd.R_alloc | apply Kd.R_drewN | apply Kd.R_drew)); exact HO_4.out⟩, ⟨Z66⟩, ⟨Z0⟩⟩
    case round =>
     clear H'
     try clear c2
     try clear c2b0
     try clear c2b1
     try clear p2
     try clear c8
     try clear hcz4_0
     try clear hcz4_1
     try clear hfz4_0
     try clear hfz4_1
     try clear p2
     obtain ⟨x4_2, x5_2, x224000_2, x224001_2, rfl, HA, HK2, HO_4, BK223, HB⟩ := hrel
     cases gk with
     | zero => exact absurd HA.out (by simp [goscan_Raw.l0])
     | succ k2 =>
      have H := HA.out
      clear HA
      simp only [goscan_Raw.l0] at H
      by_cases c9 : x5_2 < (a0.size : Int)
      ·rw [if_pos c9] at H
       have c9b0 := decide_eq_true c9
       clear c9
       replace H := Option.bind_eq_some_iff.mp H
       obtain ⟨⟨t225, t226, t227, t228⟩, A100, H⟩ := H
       replace H : (if t228 = true then (if t225 > 0 then (if (x4_2.length : Int) ≥ 65536 then (some (([] : List (S36)), 3, x5_2)) else (if x4_2.length < 5864062014805 then (goscan_Raw.l0 k2 a0 (x4_2 ++ [(⟨t225, t226, t227⟩ : S36)]) t227) else (none))) else (goscan_Raw.l0 k2 a0 x4_2 t227)) else ((text_Next.f a0 x5_2).bind fun bt230 => (if bt230.2.2 = true then (some (([] : List (S36)), 60, x5_2)) else (some (([] : List (S36)), 10, x5_2))))) = some (r1, r2, r3) := H
       have A10 := Aside0.mk A100
       clear A100
       by_cases c11 : t228 = true
       ·subst c11
        have H1 : (if t225 > 0 then (if (x4_2.length : Int) ≥ 65536 then (some (([] : List (S36)), 3, x5_2)) else (if x4_2.length < 5864062014805 then (goscan_Raw.l0 k2 a0 (x4_2 ++ [(⟨t225, t226, t227⟩ : S36)]) t227) else (none))) else (goscan_Raw.l0 k2 a0 x4_2 t227)) = some (r1, r2, r3) := by rw [if_pos rfl] at H; exact H
        clear H
        have H := H1
        clear H1
        by_cases c12 : t225 > 0
        ·rw [if_pos c12] at H
         have c12b0 : decide (0 < t225) = true := decide_eq_true c12
         clear c12
         by_cases c13 : (x4_2.length : Int) ≥ 65536
         ·rw [if_pos c13] at H
          have c13b0 : decide (65536 ≤ (x4_2.length : Int)) = true := decide_eq_true c13
          have c13b1 : decide (65536 ≤ x4_2.length) = true := decide_eq_true Z57
          clear c13
          simp only [Option.some.injEq, Prod.mk.injEq] at H
          obtain ⟨rfl, rfl, rfl⟩ := H
          go_wp2_with (first | (refine gR (some 24) Try.func29 (goscan_next.calls A10.out) (h := ?_); rintro w14 hb; replace HO_4 := Aside0.mk (Kd.R_below (kK HO_4) hb); replace BK223 := Aside0.mk (blk_below (g := gb223) (o := .cells #[.int .i64 x224000_2, .int .i64 x224001_2] 25 (0, 0)) (bK BK223) hb); replace HB := Aside0.mk (below_step zB hb); (try clear hb); (try clear hb2); (try clear hk); (try clear hi)) | ((with_reducible refine gate_dst (N := 6) rfl ?_); refine box_event ?hg (N := 6) ?hd (cs := #[.int .i64 0, .int .i64 0, .int .i64 0]) (t := 36) ?hr ?_; (case hd => rfl); (case hg => rfl); (case hr => first | (go_simp; done) | (go_simp; rfl)); intro gb229 hg w15 hbox hb; have n0_ := Aside0.mk (Kd.R_below (Kd.R_elderB (kK HO_4) gb229 (Nat.le_of_eq hg.symm)) hb); have n1_ := Aside0.mk (blk_below (g := gb223) (o := .cells #[.int .i64 x224000_2, .int .i64 x224001_2] 25 (0, 0)) (bK BK223) hb); have n2_ := Aside0.mk (below_step zB hb); have n3_ := Aside0.mk (hbox); have n4_ := gE hg zB; have n5_ := gE hg zB; have n6_ := Aside0.mk ((by rw [hg]; exact Nat.ne_of_lt (blk_lt (g := gb223) (o := .cells #[.int .i64 x224000_2, .int .i64 x224001_2] 25 (0, 0)) (bK BK223)) : gb223 ≠ gb229)); have n7_ := Aside0.mk ((by rw [hg]; exact Nat.ne_of_gt (blk_lt (g := gb223) (o := .cells #[.int .i64 x224000_2, .int .i64 x224001_2] 25 (0, 0)) (bK BK223)) : gb229 ≠ gb223)); clear HO_4; clear BK223; clear HB; have HO_4 := n0_; have BK223 := n1_; have HB := n2_; have BK229 := n3_; have GW229 := n4_; have GE229 := n5_; have NB223_229 := n6_; have NB229_223 := n7_; clear n0_ n1_ n2_ n3_ n4_ n5_ n6_ n7_; clear hb hbox hg; have hnb16 := NB229_223.out; have hnc16 := NB223_229.out; have hcz17_0 := bC BK229 0 (.int .i64 0); have hcz17_1 := bC BK229 1 (.int .i64 0); have hcz17_2 := bC BK229 2 (.int .i64 0); have hfz17_0 := blk_frozen BK229.out 0; have hfz17_1 := blk_frozen BK229.out 1; have hfz17_2 := blk_frozen BK229.out 2; obtain ⟨Ao18, co18, eo18⟩ := Kd.R_slice HO_4.out; subst eo18; have hcz19_0 := bC BK223 0 (.int .i64 x224000_2); have hcz19_1 := bC BK223 1 (.int .i64 x224001_2); have hfz19_0 := blk_frozen BK223.out 0; have hfz19_1 := blk_frozen BK223.out 1))
          refine bodyPost_ret (results_tc rfl _ _ gb223 25 #[.int .i64 3, .int .i64 x5_2] (0, 0) _ rfl (by (with_reducible repeat (first | refine blk_drewN ?_ _ | refine blk_drew ?_ | refine blk_alloc ?_ _)); refine blk_put (cs := #[.int .i64 3, .int .i64 x224001_2]) ?_ 1 _ rfl; (with_reducible repeat (first | refine blk_drewN ?_ _ | refine blk_drew ?_ | refine blk_alloc ?_ _)); refine blk_put (cs := #[.int .i64 x224000_2, .int .i64 x224001_2]) ?_ 0 _ rfl; (with_reducible repeat (first | refine blk_drewN ?_ _ | refine blk_drew ?_ | refine blk_alloc ?_ _)); refine blk_far ?_ NB223_229.out _; (with_reducible repeat (first | refine blk_drewN ?_ _ | refine blk_drew ?_ | refine blk_alloc ?_ _)); refine blk_far ?_ NB223_229.out _; (with_reducible repeat (first | refine blk_drewN ?_ _ | refine blk_drew ?_ | refine blk_alloc ?_ _)); refine blk_far ?_ NB223_229.out _; (with_reducible repeat (first | refine blk_drewN ?_ _ | refine blk_drew ?_ | refine blk_alloc ?_ _)); exact BK223.out) Try.underlying25 rfl Z5) rfl ?_
          exact ⟨_, Z2, Z10, Z0⟩
         ·rw [if_neg c13] at H
          have c13b0 : decide (65536 ≤ (x4_2.length : Int)) = false := decide_eq_false c13
          have c13b1 : decide (65536 ≤ x4_2.length) = false := decide_eq_false Z57
          clear c13
          by_cases c20 : x4_2.length < 5864062014805
          ·rw [if_pos c20] at H
           have LMc20 := Aside0.mk c20
           clear c20
           obtain ⟨y233, hy233⟩ : ∃ y_ : List (S36), y_ = (x4_2 ++ [(⟨t225, t226, t227⟩ : S36)]) := ⟨_, rfl⟩
           replace H : (goscan_Raw.l0 k2 a0 y233 t227) = some (r1, r2, r3) := by first | (rw [hy233]; with_reducible exact H) | (have H2_ := (Option.bind_some _ _).symm.trans H; rw [hy233]; with_reducible exact H2_) | (have H2_ := (Option.bind_some _ _).symm.trans H; with_reducible exact H2_) | with_reducible exact H | (rw [hy233]; exact H) | exact H
           have Ny233 := Aside0.mk hy233
           clear hy233
           have H' := Aside0.mk H
           clear H
           go_wp2_with (first | (refine gR (some 24) Try.func29 (goscan_next.calls A10.out) (h := ?_); rintro w21 hb; replace HO_4 := Aside0.mk (Kd.R_below (kK HO_4) hb); replace BK223 := Aside0.mk (blk_below (g := gb223) (o := .cells #[.int .i64 x224000_2, .int .i64 x224001_2] 25 (0, 0)) (bK BK223) hb); replace HB := Aside0.mk (below_step zB hb); (try clear hb); (try clear hb2); (try clear hk); (try clear hi)) | ((with_reducible refine gate_dst (N := 6) rfl ?_); refine box_event ?hg (N := 6) ?hd (cs := #[.int .i64 0, .int .i64 0, .int .i64 0]) (t := 36) ?hr ?_; (case hd => rfl); (case hg => rfl); (case hr => first | (go_simp; done) | (go_simp; rfl)); intro gb229 hg w22 hbox hb; have n0_ := Aside0.mk (Kd.R_below (Kd.R_elderB (kK HO_4) gb229 (Nat.le_of_eq hg.symm)) hb); have n1_ := Aside0.mk (blk_below (g := gb223) (o := .cells #[.int .i64 x224000_2, .int .i64 x224001_2] 25 (0, 0)) (bK BK223) hb); have n2_ := Aside0.mk (below_step zB hb); have n3_ := Aside0.mk (hbox); have n4_ := gE hg zB; have n5_ := gE hg zB; have n6_ := Aside0.mk ((by rw [hg]; exact Nat.ne_of_lt (blk_lt (g := gb223) (o := .cells #[.int .i64 x224000_2, .int .i64 x224001_2] 25 (0, 0)) (bK BK223)) : gb223 ≠ gb229)); have n7_ := Aside0.mk ((by rw [hg]; exact Nat.ne_of_gt (blk_lt (g := gb223) (o := .cells #[.int .i64 x224000_2, .int .i64 x224001_2] 25 (0, 0)) (bK BK223)) : gb229 ≠ gb223)); clear HO_4; clear BK223; clear HB; have HO_4 := n0_; have BK223 := n1_; have HB := n2_; have BK229 := n3_; have GW229 := n4_; have GE229 := n5_; have NB223_229 := n6_; have NB229_223 := n7_; clear n0_ n1_ n2_ n3_ n4_ n5_ n6_ n7_; clear hb hbox hg; have hnb23 := NB229_223.out; have hnc23 := NB223_229.out; have hcz24_0 := bC BK229 0 (.int .i64 0); have hcz24_1 := bC BK229 1 (.int .i64 0); have hcz24_2 := bC BK229 2 (.int .i64 0); have hfz24_0 := blk_frozen BK229.out 0; have hfz24_1 := blk_frozen BK229.out 1; have hfz24_2 := blk_frozen BK229.out 2; obtain ⟨Ao25, co25, eo25⟩ := Kd.R_slice HO_4.out; subst eo25) | ((with_reducible refine gate_builtin (b := .append) (xs := #[.tmp 50, .tmp 52]) rfl ?_); at_builtin; refine Kd.R_append k36 (w0 := w) w.heap.size rfl (.tmp 50) (.tmp 52) 22 36 (.agg #[(.int .i64 0), (.int .i64 0), (.int .i64 0)]) 24 rfl Try.underlying22 info36 rfl Z43 Z57 (.slice Ao25 x4_2.length co25) x4_2 (⟨t225, t226, t227⟩ : S36) [.int .i64 t225, .int .i64 t226, .int .i64 t227] (fun k_ => k_ ≠ gb229) (fun _ => False) rfl (by first | (go_simp; done) | (go_simp; rfl)) ?aP (fun _ hk => hk.elim) ?aF ?aO ?aB ?aS ?aL ?_; (case aP => exact k36_mkM _ _ _ (⟨t225, t226, t227⟩ : S36)); (case aB => exact zB); (case aF => exact (fun k_ hk => Kd.freshB (g := gb229) (o := .cells #[.int .i64 t225, .int .i64 t226, .int .i64 t227] 36 (0, 0)) Z12 k_ hk)); (case aO => exact (by (with_reducible repeat (first | apply Kd.R_alloc | apply Kd.R_drewN | apply Kd.R_drew)); exact Kd.R_mono (Kd.R_far (p := ⟨gb229, 2, none⟩) (Kd.R_far (p := ⟨gb229, 1, none⟩) (Kd.R_far (p := ⟨gb229, 0, none⟩) (Kd.R_mono HO_4.out (fun k_ hk => (⟨hk, hk.2⟩ : _ ∧ k_ ≠ gb229))) (fun _ hk => hk.2) (.int .i64 t225)) (fun _ hk => hk.2) (.int .i64 t226)) (fun _ hk => hk.2) (.int .i64 t227)) (fun _ hk => hk.1.2))); (case aS => exact (below_size zB)); (case aL => have := LMc20.out; omega); intro v234 w26 ho hb hg hat; rw [← Ny233.out] at ho; have n0_ := Aside0.mk (blk_grown (g := gb223) (o := .cells #[.int .i64 x224000_2, .int .i64 x224001_2] 25 (0, 0)) Z15 hg (Kd.R_ne HO_4.out BK223.out Z43)); have n1_ := Aside0.mk (blk_grown (g := gb229) (o := .cells #[.int .i64 t225, .int .i64 t226, .int .i64 t227] 36 (0, 0)) Z12 hg (Kd.R_away HO_4.out (fun _ hk => hk.2))); have n2_ := Aside0.mk (hb); have n3_ := Aside0.mk (ho); clear BK223; clear BK229; clear HB; clear HO_4; have BK223 := n0_; have BK229 := n1_; have HB := n2_; have HO235 := n3_; clear n0_ n1_ n2_ n3_; clear ho hb hg hat; have hcz27_0 := bC BK229 0 (.int .i64 t225); have hcz27_1 := bC BK229 1 (.int .i64 t226); have hcz27_2 := bC BK229 2 (.int .i64 t227); have hfz27_0 := blk_frozen BK229.out 0; have hfz27_1 := blk_frozen BK229.out 1; have hfz27_2 := blk_frozen BK229.out 2))
           go_roundg k2
           case measure => have := HJ5.out; have := HK2.out; omega
           case rel => exact ⟨(y233), (t227), (x224000_2), (x224001_2), Z1, H', ⟨by have := HJ5.out; have := HK2.out; omega⟩, ⟨by (with_reducible repeat (first | apply Kd.R_alloc | apply Kd.R_drewN | apply Kd.R_drew)); exact Kd.R_mono HO235.out (fun _ hk => trivial)⟩, ⟨Z66⟩, ⟨Z0⟩⟩
          ·rw [if_neg c20] at H
           exact absurd H Z61
        ·rw [if_neg c12] at H
         have c12b0 : decide (0 < t225) = false := decide_eq_false c12
         clear c12
         have H' := Aside0.mk H
         clear H
         go_wp2_with (first | (refine gR (some 24) Try.func29 (goscan_next.calls A10.out) (h := ?_); rintro w28 hb; replace HO_4 := Aside0.mk (Kd.R_below (kK HO_4) hb); replace BK223 := Aside0.mk (blk_below (g := gb223) (o := .cells #[.int .i64 x224000_2, .int .i64 x224001_2] 25 (0, 0)) (bK BK223) hb); replace HB := Aside0.mk (below_step zB hb); (try clear hb); (try clear hb2); (try clear hk); (try clear hi)) | ((with_reducible refine gate_dst (N := 6) rfl ?_); refine box_event ?hg (N := 6) ?hd (cs := #[.int .i64 0, .int .i64 0, .int .i64 0]) (t := 36) ?hr ?_; (case hd => rfl); (case hg => rfl); (case hr => first | (go_simp; done) | (go_simp; rfl)); intro gb229 hg w29 hbox hb; have n0_ := Aside0.mk (Kd.R_below (Kd.R_elderB (kK HO_4) gb229 (Nat.le_of_eq hg.symm)) hb); have n1_ := Aside0.mk (blk_below (g := gb223) (o := .cells #[.int .i64 x224000_2, .int .i64 x224001_2] 25 (0, 0)) (bK BK223) hb); have n2_ := Aside0.mk (below_step zB hb); have n3_ := Aside0.mk (hbox); have n4_ := gE hg zB; have n5_ := gE hg zB; have n6_ := Aside0.mk ((by rw [hg]; exact Nat.ne_of_lt (blk_lt (g := gb223) (o := .cells #[.int .i64 x224000_2, .int .i64 x224001_2] 25 (0, 0)) (bK BK223)) : gb223 ≠ gb229)); have n7_ := Aside0.mk ((by rw [hg]; exact Nat.ne_of_gt (blk_lt (g := gb223) (o := .cells #[.int .i64 x224000_2, .int .i64 x224001_2] 25 (0, 0)) (bK BK223)) : gb229 ≠ gb223)); clear HO_4; clear BK223; clear HB; have HO_4 := n0_; have BK223 := n1_; have HB := n2_; have BK229 := n3_; have GW229 := n4_; have GE229 := n5_; have NB223_229 := n6_; have NB229_223 := n7_; clear n0_ n1_ n2_ n3_ n4_ n5_ n6_ n7_; clear hb hbox hg; have hnb30 := NB229_223.out; have hnc30 := NB223_229.out; have hcz31_0 := bC BK229 0 (.int .i64 0); have hcz31_1 := bC BK229 1 (.int .i64 0); have hcz31_2 := bC BK229 2 (.int .i64 0); have hfz31_0 := blk_frozen BK229.out 0; have hfz31_1 := blk_frozen BK229.out 1; have hfz31_2 := blk_frozen BK229.out 2))
         go_roundg k2
         case measure => have := HJ5.out; have := HK2.out; omega
         case rel => exact ⟨(x4_2), (t227), (x224000_2), (x224001_2), Z1, H', ⟨by have := HJ5.out; have := HK2.out; omega⟩, ⟨by (with_reducible repeat (first | apply Kd.R_alloc | apply Kd.R_drewN | apply Kd.R_drew)); exact Kd.R_mono (Kd.R_far (p := ⟨gb229, 2, none⟩) (Kd.R_far (p := ⟨gb229, 1, none⟩) (Kd.R_far (p := ⟨gb229, 0, none⟩) (Kd.R_mono HO_4.out (fun k_ hk => (⟨hk, hk.2⟩ : _ ∧ k_ ≠ gb229))) (fun _ hk => hk.2) (.int .i64 t225)) (fun _ hk => hk.2) (.int .i64 t226)) (fun _ hk => hk.2) (.int .i64 t227)) (fun _ hk => trivial)⟩, ⟨Z15⟩, ⟨Z0⟩⟩
       ·replace c11 := Bool.eq_false_iff.mpr c11
        subst c11
        have H1 : ((text_Next.f a0 x5_2).bind fun bt230 => (if bt230.2.2 = true then (some (([] : List (S36)), 60, x5_2)) else (some (([] : List (S36)), 10, x5_2)))) = some (r1, r2, r3) := by rw [if_neg (show ¬ (false = true) by decide)] at H; exact H
        clear H
        have H := H1
        clear H1
        replace H := bS H
        obtain ⟨⟨t230, t231, t232⟩, A32, H⟩ := H
        try dsimp only at H
        by_cases c33 : t232 = true
        ·subst c33
         have H1 : (some (([] : List (S36)), 60, x5_2)) = some (r1, r2, r3) := by rw [if_pos rfl] at H; exact H
         clear H
         have H := H1
         clear H1
         simp only [Option.some.injEq, Prod.mk.injEq] at H
         obtain ⟨rfl, rfl, rfl⟩ := H
         go_wp2_with (first | (refine gR (some 24) Try.func29 (goscan_next.calls A10.out) (h := ?_); rintro w34 hb; replace HO_4 := Aside0.mk (Kd.R_below (kK HO_4) hb); replace BK223 := Aside0.mk (blk_below (g := gb223) (o := .cells #[.int .i64 x224000_2, .int .i64 x224001_2] 25 (0, 0)) (bK BK223) hb); replace HB := Aside0.mk (below_step zB hb); (try clear hb); (try clear hb2); (try clear hk); (try clear hi)) | ((with_reducible refine gate_dst (N := 6) rfl ?_); refine box_event ?hg (N := 6) ?hd (cs := #[.int .i64 0, .int .i64 0, .int .i64 0]) (t := 36) ?hr ?_; (case hd => rfl); (case hg => rfl); (case hr => first | (go_simp; done) | (go_simp; rfl)); intro gb229 hg w35 hbox hb; have n0_ := Aside0.mk (Kd.R_below (Kd.R_elderB (kK HO_4) gb229 (Nat.le_of_eq hg.symm)) hb); have n1_ := Aside0.mk (blk_below (g := gb223) (o := .cells #[.int .i64 x224000_2, .int .i64 x224001_2] 25 (0, 0)) (bK BK223) hb); have n2_ := Aside0.mk (below_step zB hb); have n3_ := Aside0.mk (hbox); have n4_ := gE hg zB; have n5_ := gE hg zB; have n6_ := Aside0.mk ((by rw [hg]; exact Nat.ne_of_lt (blk_lt (g := gb223) (o := .cells #[.int .i64 x224000_2, .int .i64 x224001_2] 25 (0, 0)) (bK BK223)) : gb223 ≠ gb229)); have n7_ := Aside0.mk ((by rw [hg]; exact Nat.ne_of_gt (blk_lt (g := gb223) (o := .cells #[.int .i64 x224000_2, .int .i64 x224001_2] 25 (0, 0)) (bK BK223)) : gb229 ≠ gb223)); clear HO_4; clear BK223; clear HB; have HO_4 := n0_; have BK223 := n1_; have HB := n2_; have BK229 := n3_; have GW229 := n4_; have GE229 := n5_; have NB223_229 := n6_; have NB229_223 := n7_; clear n0_ n1_ n2_ n3_ n4_ n5_ n6_ n7_; clear hb hbox hg; have hnb36 := NB229_223.out; have hnc36 := NB223_229.out; have hcz37_0 := bC BK229 0 (.int .i64 0); have hcz37_1 := bC BK229 1 (.int .i64 0); have hcz37_2 := bC BK229 2 (.int .i64 0); have hfz37_0 := blk_frozen BK229.out 0; have hfz37_1 := blk_frozen BK229.out 1; have hfz37_2 := blk_frozen BK229.out 2) | (refine gR (some 32) Try.func30 (text_Next.calls A32.out) (h := ?_); rintro w38 hb; have n0_ := Aside0.mk (Kd.R_below (by (with_reducible repeat (first | apply Kd.R_alloc | apply Kd.R_drewN | apply Kd.R_drew)); exact (Kd.R_mono (Kd.R_far (p := ⟨gb229, 2, none⟩) (Kd.R_far (p := ⟨gb229, 1, none⟩) (Kd.R_far (p := ⟨gb229, 0, none⟩) (Kd.R_mono HO_4.out (fun k_ hk => (⟨hk, hk.2⟩ : _ ∧ k_ ≠ gb229))) (fun _ hk => hk.2) (.int .i64 t225)) (fun _ hk => hk.2) (.int .i64 t226)) (fun _ hk => hk.2) (.int .i64 t227)) (fun _ h_ => h_.1))) hb); have n1_ := Aside0.mk (blk_below (g := gb223) (o := .cells #[.int .i64 x224000_2, .int .i64 x224001_2] 25 (0, 0)) Z15 hb); have n2_ := Aside0.mk (blk_below (g := gb229) (o := .cells #[.int .i64 t225, .int .i64 t226, .int .i64 t227] 36 (0, 0)) Z12 hb); have n3_ := Aside0.mk (below_step zB hb); clear HO_4; clear BK223; clear BK229; clear HB; have HO_4 := n0_; have BK223 := n1_; have BK229 := n2_; have HB := n3_; clear n0_ n1_ n2_ n3_; (try clear hb); (try clear hb2); (try clear hk); (try clear hi); have hcz39_0 := bC BK223 0 (.int .i64 x224000_2); have hcz39_1 := bC BK223 1 (.int .i64 x224001_2); have hfz39_0 := blk_frozen BK223.out 0; have hfz39_1 := blk_frozen BK223.out 1))
         refine bodyPost_ret (results_tc rfl _ _ gb223 25 #[.int .i64 60, .int .i64 x5_2] (0, 0) _ rfl (by (with_reducible repeat (first | refine blk_drewN ?_ _ | refine blk_drew ?_ | refine blk_alloc ?_ _)); refine blk_put (cs := #[.int .i64 60, .int .i64 x224001_2]) ?_ 1 _ rfl; (with_reducible repeat (first | refine blk_drewN ?_ _ | refine blk_drew ?_ | refine blk_alloc ?_ _)); refine blk_put (cs := #[.int .i64 x224000_2, .int .i64 x224001_2]) ?_ 0 _ rfl; (with_reducible repeat (first | refine blk_drewN ?_ _ | refine blk_drew ?_ | refine blk_alloc ?_ _)); exact BK223.out) Try.underlying25 rfl Z5) rfl ?_
         exact ⟨_, Z2, Z10, Z0⟩
        ·replace c33 := Bool.eq_false_iff.mpr c33
         subst c33
         have H1 : (some (([] : List (S36)), 10, x5_2)) = some (r1, r2, r3) := by rw [if_neg (show ¬ (false = true) by decide)] at H; exact H
         clear H
         have H := H1
         clear H1
         simp only [Option.some.injEq, Prod.mk.injEq] at H
         obtain ⟨rfl, rfl, rfl⟩ := H
         go_wp2_with (first | (refine gR (some 24) Try.func29 (goscan_next.calls A10.out) (h := ?_); rintro w40 hb; replace HO_4 := Aside0.mk (Kd.R_below (kK HO_4) hb); replace BK223 := Aside0.mk (blk_below (g := gb223) (o := .cells #[.int .i64 x224000_2, .int .i64 x224001_2] 25 (0, 0)) (bK BK223) hb); replace HB := Aside0.mk (below_step zB hb); (try clear hb); (try clear hb2); (try clear hk); (try clear hi)) | ((with_reducible refine gate_dst (N := 6) rfl ?_); refine box_event ?hg (N := 6) ?hd (cs := #[.int .i64 0, .int .i64 0, .int .i64 0]) (t := 36) ?hr ?_; (case hd => rfl); (case hg => rfl); (case hr => first | (go_simp; done) | (go_simp; rfl)); intro gb229 hg w41 hbox hb; have n0_ := Aside0.mk (Kd.R_below (Kd.R_elderB (kK HO_4) gb229 (Nat.le_of_eq hg.symm)) hb); have n1_ := Aside0.mk (blk_below (g := gb223) (o := .cells #[.int .i64 x224000_2, .int .i64 x224001_2] 25 (0, 0)) (bK BK223) hb); have n2_ := Aside0.mk (below_step zB hb); have n3_ := Aside0.mk (hbox); have n4_ := gE hg zB; have n5_ := gE hg zB; have n6_ := Aside0.mk ((by rw [hg]; exact Nat.ne_of_lt (blk_lt (g := gb223) (o := .cells #[.int .i64 x224000_2, .int .i64 x224001_2] 25 (0, 0)) (bK BK223)) : gb223 ≠ gb229)); have n7_ := Aside0.mk ((by rw [hg]; exact Nat.ne_of_gt (blk_lt (g := gb223) (o := .cells #[.int .i64 x224000_2, .int .i64 x224001_2] 25 (0, 0)) (bK BK223)) : gb229 ≠ gb223)); clear HO_4; clear BK223; clear HB; have HO_4 := n0_; have BK223 := n1_; have HB := n2_; have BK229 := n3_; have GW229 := n4_; have GE229 := n5_; have NB223_229 := n6_; have NB229_223 := n7_; clear n0_ n1_ n2_ n3_ n4_ n5_ n6_ n7_; clear hb hbox hg; have hnb42 := NB229_223.out; have hnc42 := NB223_229.out; have hcz43_0 := bC BK229 0 (.int .i64 0); have hcz43_1 := bC BK229 1 (.int .i64 0); have hcz43_2 := bC BK229 2 (.int .i64 0); have hfz43_0 := blk_frozen BK229.out 0; have hfz43_1 := blk_frozen BK229.out 1; have hfz43_2 := blk_frozen BK229.out 2) | (refine gR (some 32) Try.func30 (text_Next.calls A32.out) (h := ?_); rintro w44 hb; have n0_ := Aside0.mk (Kd.R_below (by (with_reducible repeat (first | apply Kd.R_alloc | apply Kd.R_drewN | apply Kd.R_drew)); exact (Kd.R_mono (Kd.R_far (p := ⟨gb229, 2, none⟩) (Kd.R_far (p := ⟨gb229, 1, none⟩) (Kd.R_far (p := ⟨gb229, 0, none⟩) (Kd.R_mono HO_4.out (fun k_ hk => (⟨hk, hk.2⟩ : _ ∧ k_ ≠ gb229))) (fun _ hk => hk.2) (.int .i64 t225)) (fun _ hk => hk.2) (.int .i64 t226)) (fun _ hk => hk.2) (.int .i64 t227)) (fun _ h_ => h_.1))) hb); have n1_ := Aside0.mk (blk_below (g := gb223) (o := .cells #[.int .i64 x224000_2, .int .i64 x224001_2] 25 (0, 0)) Z15 hb); have n2_ := Aside0.mk (blk_below (g := gb229) (o := .cells #[.int .i64 t225, .int .i64 t226, .int .i64 t227] 36 (0, 0)) Z12 hb); have n3_ := Aside0.mk (below_step zB hb); clear HO_4; clear BK223; clear BK229; clear HB; have HO_4 := n0_; have BK223 := n1_; have BK229 := n2_; have HB := n3_; clear n0_ n1_ n2_ n3_; (try clear hb); (try clear hb2); (try clear hk); (try clear hi); have hcz45_0 := bC BK223 0 (.int .i64 x224000_2); have hcz45_1 := bC BK223 1 (.int .i64 x224001_2); have hfz45_0 := blk_frozen BK223.out 0; have hfz45_1 := blk_frozen BK223.out 1))
         refine bodyPost_ret (results_tc rfl _ _ gb223 25 #[.int .i64 10, .int .i64 x5_2] (0, 0) _ rfl (by (with_reducible repeat (first | refine blk_drewN ?_ _ | refine blk_drew ?_ | refine blk_alloc ?_ _)); refine blk_put (cs := #[.int .i64 10, .int .i64 x224001_2]) ?_ 1 _ rfl; (with_reducible repeat (first | refine blk_drewN ?_ _ | refine blk_drew ?_ | refine blk_alloc ?_ _)); refine blk_put (cs := #[.int .i64 x224000_2, .int .i64 x224001_2]) ?_ 0 _ rfl; (with_reducible repeat (first | refine blk_drewN ?_ _ | refine blk_drew ?_ | refine blk_alloc ?_ _)); exact BK223.out) Try.underlying25 rfl Z5) rfl ?_
         exact ⟨_, Z2, Z10, Z0⟩
      ·rw [if_neg c9] at H
       have c9b0 := decide_eq_false c9
       clear c9
       simp only [Option.some.injEq, Prod.mk.injEq] at H
       obtain ⟨rfl, rfl, rfl⟩ := H
       have hcz46_0 := bC BK223 0 (.int .i64 x224000_2)
       have hcz46_1 := bC BK223 1 (.int .i64 x224001_2)
       have hfz46_0 := blk_frozen BK223.out 0
       have hfz46_1 := blk_frozen BK223.out 1
       go_wp2
       refine bodyPost_ret (results_tc rfl _ _ gb223 25 #[.int .i64 0, .int .i64 0] (0, 0) _ rfl (by (with_reducible repeat (first | refine blk_drewN ?_ _ | refine blk_drew ?_ | refine blk_alloc ?_ _)); refine blk_put (cs := #[.int .i64 0, .int .i64 x224001_2]) ?_ 1 _ rfl; (with_reducible repeat (first | refine blk_drewN ?_ _ | refine blk_drew ?_ | refine blk_alloc ?_ _)); refine blk_put (cs := #[.int .i64 x224000_2, .int .i64 x224001_2]) ?_ 0 _ rfl; (with_reducible repeat (first | refine blk_drewN ?_ _ | refine blk_drew ?_ | refine blk_alloc ?_ _)); exact BK223.out) Try.underlying25 rfl Z5) rfl ?_
       exact ⟨_, Z2, by (with_reducible repeat (first | apply Kd.R_alloc | apply Kd.R_drewN | apply Kd.R_drew)); exact Kd.R_mono (Kd.R_far (p := ⟨gb223, 1, none⟩) (Kd.R_far (p := ⟨gb223, 0, none⟩) (Kd.R_types HO_4.out BK223.out Z43) (fun _ hk => hk.2) (.int .i64 0)) (fun _ hk => hk.2) (.int .i64 0)) (fun _ hk => trivial), Z0⟩
def quoinref26_operators.l : List ByteArray := [⟨#[97, 100, 100]⟩, ⟨#[43]⟩, ⟨#[115, 117, 98]⟩, ⟨#[45]⟩, ⟨#[109, 117, 108]⟩, ⟨#[42]⟩, ⟨#[113, 117, 111]⟩, ⟨#[47]⟩, ⟨#[114, 101, 109]⟩, ⟨#[37]⟩, ⟨#[97, 110, 100]⟩, ⟨#[38]⟩, ⟨#[111, 114]⟩, ⟨#[124]⟩, ⟨#[120, 111, 114]⟩, ⟨#[94]⟩, ⟨#[115, 104, 108]⟩, ⟨#[60, 60]⟩, ⟨#[115, 104, 114]⟩, ⟨#[62, 62]⟩, ⟨#[97, 110, 100, 110, 111, 116]⟩, ⟨#[38, 94]⟩, ⟨#[97, 100, 100, 115, 101, 116]⟩, ⟨#[43, 61]⟩, ⟨#[115, 117, 98, 115, 101, 116]⟩, ⟨#[45, 61]⟩, ⟨#[109, 117, 108, 115, 101, 116]⟩, ⟨#[42, 61]⟩, ⟨#[113, 117, 111, 115, 101, 116]⟩, ⟨#[47, 61]⟩, ⟨#[114, 101, 109, 115, 101, 116]⟩, ⟨#[37, 61]⟩, ⟨#[97, 110, 100, 115, 101, 116]⟩, ⟨#[38, 61]⟩, ⟨#[111, 114, 115, 101, 116]⟩, ⟨#[124, 61]⟩, ⟨#[120, 111, 114, 115, 101, 116]⟩, ⟨#[94, 61]⟩, ⟨#[115, 104, 108, 115, 101, 116]⟩, ⟨#[60, 60, 61]⟩, ⟨#[115, 104, 114, 115, 101, 116]⟩, ⟨#[62, 62, 61]⟩, ⟨#[97, 110, 100, 110, 111, 116, 115, 101, 116]⟩, ⟨#[38, 94, 61]⟩, ⟨#[108, 97, 110, 100]⟩, ⟨#[38, 38]⟩, ⟨#[108, 111, 114]⟩, ⟨#[124, 124]⟩, ⟨#[97, 114, 114, 111, 119]⟩, ⟨#[60, 45]⟩, ⟨#[105, 110, 99]⟩, ⟨#[43, 43]⟩, ⟨#[100, 101, 99]⟩, ⟨#[45, 45]⟩, ⟨#[101, 113, 108]⟩, ⟨#[61, 61]⟩, ⟨#[108, 115, 115]⟩, ⟨#[60]⟩, ⟨#[103, 116, 114]⟩, ⟨#[62]⟩, ⟨#[97, 115, 115, 105, 103, 110]⟩, ⟨#[61]⟩, ⟨#[110, 111, 116]⟩, ⟨#[33]⟩, ⟨#[116, 105, 108, 100, 101]⟩, ⟨#[126]⟩, ⟨#[110, 101, 113]⟩, ⟨#[33, 61]⟩, ⟨#[108, 101, 113]⟩, ⟨#[60, 61]⟩, ⟨#[103, 101, 113]⟩, ⟨#[62, 61]⟩, ⟨#[100, 101, 102, 105, 110, 101]⟩, ⟨#[58, 61]⟩, ⟨#[101, 108, 108, 105, 112, 115, 105, 115]⟩, ⟨#[46, 46, 46]⟩, ⟨#[108, 112, 97, 114, 101, 110]⟩, ⟨#[40]⟩, ⟨#[108, 98, 114, 97, 99, 107]⟩, ⟨#[91]⟩, ⟨#[108, 98, 114, 97, 99, 101]⟩, ⟨#[123]⟩, ⟨#[99, 111, 109, 109, 97]⟩, ⟨#[44]⟩, ⟨#[112, 101, 114, 105, 111, 100]⟩, ⟨#[46]⟩, ⟨#[114, 112, 97, 114, 101, 110]⟩, ⟨#[41]⟩, ⟨#[114, 98, 114, 97, 99, 107]⟩, ⟨#[93]⟩, ⟨#[114, 98, 114, 97, 99, 101]⟩, ⟨#[125]⟩, ⟨#[115, 101, 109, 105]⟩, ⟨#[59]⟩, ⟨#[99, 111, 108, 111, 110]⟩, ⟨#[58]⟩]
def quoinref26_operators.f : Option (List ByteArray) := some quoinref26_operators.l
set_option maxHeartbeats 8000000 in
set_option maxRecDepth 100000 in
theorem quoinref26_operators.calls {r : List ByteArray} {w : World} (h : quoinref26_operators.f = some r) :
  Calls Try.prog 40 #[] w fun e w' => ∃ v0_ : Value, e = .returned (v0_) ∧ Kd.R Kd.string 9 w' w.heap.size (fun _ => True) v0_ r ∧ Below w.heap.size w w' := by
 obtain rfl := Option.some.inj h
 clear h
 go_enter Try.func40, Try.ntmps40
 go_wp2_with (first | ((with_reducible refine gate_dst (N := 1) rfl ?_); refine Kd.R_lit Kd.string _ 9 Z67 (N := 1) Z67 (xs := quoinref26_operators.l) (inner := quoinref26_operators.l.map Value.string) (ok := fun _ => True) (okp := fun _ => True) Z5 (reps_strings _ _ _ _) (fun _ hk => hk) trivial (Below.refl _ _) (Nat.le_refl _) Z43 ?_; intro v1 w1 hv1 hb1 _ _; have hv1 := Aside0.mk hv1; have hb1 := Aside0.mk hb1))
 go_ret
 exact ⟨_, rfl, hv1.out, hb1.out⟩
def quoinref26_keywords.l : List ByteArray := [⟨#[98, 114, 101, 97, 107]⟩, ⟨#[99, 97, 115, 101]⟩, ⟨#[99, 104, 97, 110]⟩, ⟨#[99, 111, 110, 115, 116]⟩, ⟨#[99, 111, 110, 116, 105, 110, 117, 101]⟩, ⟨#[100, 101, 102, 97, 117, 108, 116]⟩, ⟨#[100, 101, 102, 101, 114]⟩, ⟨#[101, 108, 115, 101]⟩, ⟨#[102, 97, 108, 108, 116, 104, 114, 111, 117, 103, 104]⟩, ⟨#[102, 111, 114]⟩, ⟨#[102, 117, 110, 99]⟩, ⟨#[103, 111]⟩, ⟨#[103, 111, 116, 111]⟩, ⟨#[105, 102]⟩, ⟨#[105, 109, 112, 111, 114, 116]⟩, ⟨#[105, 110, 116, 101, 114, 102, 97, 99, 101]⟩, ⟨#[109, 97, 112]⟩, ⟨#[112, 97, 99, 107, 97, 103, 101]⟩, ⟨#[114, 97, 110, 103, 101]⟩, ⟨#[114, 101, 116, 117, 114, 110]⟩, ⟨#[115, 101, 108, 101, 99, 116]⟩, ⟨#[115, 116, 114, 117, 99, 116]⟩, ⟨#[115, 119, 105, 116, 99, 104]⟩, ⟨#[116, 121, 112, 101]⟩, ⟨#[118, 97, 114]⟩]
def quoinref26_keywords.f : Option (List ByteArray) := some quoinref26_keywords.l
set_option maxHeartbeats 8000000 in
set_option maxRecDepth 100000 in
theorem quoinref26_keywords.calls {r : List ByteArray} {w : World} (h : quoinref26_keywords.f = some r) :
  Calls Try.prog 41 #[] w fun e w' => ∃ v0_ : Value, e = .returned (v0_) ∧ Kd.R Kd.string 9 w' w.heap.size (fun _ => True) v0_ r ∧ Below w.heap.size w w' := by
 obtain rfl := Option.some.inj h
 clear h
 go_enter Try.func41, Try.ntmps41
 go_wp2_with (first | ((with_reducible refine gate_dst (N := 1) rfl ?_); refine Kd.R_lit Kd.string _ 9 Z67 (N := 1) Z67 (xs := quoinref26_keywords.l) (inner := quoinref26_keywords.l.map Value.string) (ok := fun _ => True) (okp := fun _ => True) Z5 (reps_strings _ _ _ _) (fun _ hk => hk) trivial (Below.refl _ _) (Nat.le_refl _) Z43 ?_; intro v1 w1 hv1 hb1 _ _; have hv1 := Aside0.mk hv1; have hb1 := Aside0.mk hb1))
 go_ret
 exact ⟨_, rfl, hv1.out, hb1.out⟩
section
attribute [local go_sem high] eqA36
def goscan_Text.f (k : Nat) (a0 : Int) : Option (ByteArray × Bool) := (goscan_texts.f k).bind fun t411 => (if a0 < 8 then (some ((⟨#[]⟩ : ByteArray), false)) else (if (wrap64 (a0 - 8)) ≥ (t411.length : Int) then (some ((⟨#[]⟩ : ByteArray), false)) else (if 0 ≤ (wrap64 (a0 - 8)) then (if (wrap64 (a0 - 8)) < (t411.length : Int) then (some (rdOf ByteArray.empty t411 (wrap64 (a0 - 8)), true)) else (none)) else (none))))
theorem goscan_Text.mono : ∀ a0 k, LeO (goscan_Text.f k a0) (goscan_Text.f (k + 1) a0) := by
 intro a0 k
 unfold goscan_Text.f
 have m0 := @goscan_texts.mono
 exact mO
set_option maxHeartbeats 8000000 in
set_option maxRecDepth 100000 in
theorem goscan_Text.calls {k : Nat} {a0 : Int} {r1 : ByteArray} {r2 : Bool} {w : World} (h : goscan_Text.f k a0 = some (r1, r2)) :
  Calls Try.prog 19 #[.int .i64 a0] w fun e w' => e = .returned (.tuple #[.string r1, .bool r2]) ∧ Below w.heap.size w w' := by
 have HB := Aside0.mk (Below.refl w.heap.size w)
 have H : ((goscan_texts.f k).bind fun t411 => (if a0 < 8 then (some ((⟨#[]⟩ : ByteArray), false)) else (if (wrap64 (a0 - 8)) ≥ (t411.length : Int) then (some ((⟨#[]⟩ : ByteArray), false)) else (if 0 ≤ (wrap64 (a0 - 8)) then (if (wrap64 (a0 - 8)) < (t411.length : Int) then (some (rdOf ByteArray.empty t411 (wrap64 (a0 - 8)), true)) else (none)) else (none))))) = some (r1, r2) := h
 clear h
 replace H := bS H
 obtain ⟨t411, A2, H⟩ := H
 try dsimp only at H
 by_cases c3 : a0 < 8
 ·rw [if_pos c3] at H
  have c3b0 := decide_eq_true c3
  clear c3
  simp only [Option.some.injEq, Prod.mk.injEq] at H
  obtain ⟨rfl, rfl⟩ := H
  go_enter Try.func19, Try.ntmps19
  go_wp2_with (first | (refine gQ (some 5) Try.func42 (goscan_texts.calls A2.out) (h := ?_); rintro v412 w4 ⟨ho0, hb⟩; have HO413 := Aside0.mk (Kd.R_lower ho0 (below_size zB)); replace HB := Aside0.mk (below_step zB hb); (try clear hb); (try clear hb2); (try clear hk); (try clear hi); (try clear ho0)))
  go_ret2
  exact ⟨Z2, Z0⟩
 ·rw [if_neg c3] at H
  have c3b0 := decide_eq_false c3
  clear c3
  by_cases c5 : (wrap64 (a0 - 8)) ≥ (t411.length : Int)
  ·rw [if_pos c5] at H
   have c5b0 : decide ((t411.length : Int) ≤ (wrap64 (a0 - 8))) = true := decide_eq_true c5
   clear c5
   simp only [Option.some.injEq, Prod.mk.injEq] at H
   obtain ⟨rfl, rfl⟩ := H
   go_enter Try.func19, Try.ntmps19
   go_wp2_with (first | (refine gQ (some 5) Try.func42 (goscan_texts.calls A2.out) (h := ?_); rintro v412 w6 ⟨ho0, hb⟩; have HO413 := Aside0.mk (Kd.R_lower ho0 (below_size zB)); replace HB := Aside0.mk (below_step zB hb); (try clear hb); (try clear hb2); (try clear hk); (try clear hi); (try clear ho0); obtain ⟨Ao7, co7, eo7⟩ := Kd.R_slice HO413.out; subst eo7))
   go_ret2
   exact ⟨Z2, Z0⟩
  ·rw [if_neg c5] at H
   have c5b0 : decide ((t411.length : Int) ≤ (wrap64 (a0 - 8))) = false := decide_eq_false c5
   clear c5
   obtain ⟨ji8, hji8⟩ : ∃ j_ : Int, (wrap64 (a0 - 8)) = j_ := ⟨_, rfl⟩
   replace H : (if 0 ≤ (ji8) then (if (ji8) < (t411.length : Int) then (some (rdOf ByteArray.empty t411 (ji8), true)) else (none)) else (none)) = some (r1, r2) := by first | (rw [hji8] at H; exact H) | (simp only [hji8] at H ⊢; exact H)
   (try rw [hji8] at c5b0)
   (try rw [hji8] at A2)
   have hji8w : (IntKind.i64.wrap (a0 - 8)) = ji8 := (i64_w _).trans hji8
   by_cases c9 : 0 ≤ (ji8)
   ·rw [if_pos c9] at H
    have c9b0 := decide_eq_true c9
    clear c9
    by_cases c10 : (ji8) < (t411.length : Int)
    ·rw [if_pos c10] at H
     have c10b0 := decide_eq_true c10
     clear c10
     simp only [Option.some.injEq, Prod.mk.injEq] at H
     obtain ⟨rfl, rfl⟩ := H
     go_enter Try.func19, Try.ntmps19
     go_wp2_with (first | (refine gQ (some 5) Try.func42 (goscan_texts.calls A2.out) (h := ?_); rintro v412 w11 ⟨ho0, hb⟩; have HO413 := Aside0.mk (Kd.R_lower ho0 (below_size zB)); replace HB := Aside0.mk (below_step zB hb); (try clear hb); (try clear hb2); (try clear hk); (try clear hi); (try clear ho0); obtain ⟨Ao12, co12, eo12⟩ := Kd.R_slice HO413.out; subst eo12; have p414 : 0 ≤ ((ji8) : Int) := of_decide_eq_true Z3; have q414 : (ji8) < (t411.length : Int) := of_decide_eq_true Z3; obtain ⟨ad414, e414, hx414_0⟩ := Kd.at_string (Kd.R_reads' HO413.out).2.2 (ji8) p414 q414; cases e414; replace p414 := eq_true p414; replace q414 := eq_true q414))
     go_ret2
     exact ⟨Z44, Z0⟩
    ·rw [if_neg c10] at H
     exact absurd H Z61
   ·rw [if_neg c9] at H
    exact absurd H Z61
end
def goscan_Follows.j0 : Nat → Int → Bool → Option (Bool)
 | 0, _, _ => none
 | k + 1, x0, x10 => if x10 = true then (some true) else ((goscan_Text.f k x0).bind fun bt415 => (if bt415.1.toList = ([98, 114, 101, 97, 107] : List UInt8) then (some true) else (if bt415.1.toList = ([99, 111, 110, 116, 105, 110, 117, 101] : List UInt8) then (some true) else (if bt415.1.toList = ([102, 97, 108, 108, 116, 104, 114, 111, 117, 103, 104] : List UInt8) then (some true) else (if bt415.1.toList = ([114, 101, 116, 117, 114, 110] : List UInt8) then (some true) else (if bt415.1.toList = ([43, 43] : List UInt8) then (some true) else (if bt415.1.toList = ([45, 45] : List UInt8) then (some true) else (if bt415.1.toList = ([41] : List UInt8) then (some true) else (if bt415.1.toList = ([93] : List UInt8) then (some true) else (if bt415.1.toList = ([125] : List UInt8) then (some true) else (some false)))))))))))
def goscan_Follows.f (k : Nat) (a0 : Int) : Option (Bool) := if a0 ≥ 2 then (goscan_Follows.j0 k a0 (decide (a0 ≤ 7))) else (goscan_Follows.j0 k a0 false)
theorem goscan_Follows.mono_l : ∀ k, (∀ y0 y1, LeO (goscan_Follows.j0 k y0 y1) (goscan_Follows.j0 (k + 1) y0 y1))
 | 0 => fun _ _ r h => by simp [goscan_Follows.j0] at h
 | k + 1 => by
  have ih0 := goscan_Follows.mono_l k
  ·intro y0 y1
   unfold goscan_Follows.j0
   have m0 := @goscan_Text.mono
   exact mO
theorem goscan_Follows.mono : ∀ a0 k, LeO (goscan_Follows.f k a0) (goscan_Follows.f (k + 1) a0) := by
 intro a0 k
 have ih0 := goscan_Follows.mono_l k
 unfold goscan_Follows.f
 have m0 := @goscan_Text.mono
 exact mO
set_option maxHeartbeats 8000000 in
set_option maxRecDepth 100000 in
theorem goscan_Follows.calls {k : Nat} {a0 : Int} {r : Bool} {w : World} (h : goscan_Follows.f k a0 = some r) :
  Calls Try.prog 17 #[.int .i64 a0] w fun e w' => e = .returned (.bool r) ∧ Below w.heap.size w w' := by
 have HB := Aside0.mk (Below.refl w.heap.size w)
 have H : (if a0 ≥ 2 then (goscan_Follows.j0 k a0 (decide (a0 ≤ 7))) else (goscan_Follows.j0 k a0 false)) = some r := h
 clear h
 have HC2 := Aside0.mk H
 clear H
 go_enter Try.func17, Try.ntmps17
 go_upto_region 1 with (fail)
 go_cut [10] (fun v10 wc => ∃ (kq : Nat) (x10_1 : Bool), v10 = .bool x10_1 ∧ Aside0 (goscan_Follows.j0 kq a0 x10_1 = some r) ∧ Aside0 (kq ≤ k) ∧ Aside0 (Below w.heap.size w wc))
 case first =>
  have H := HC2.out
  clear HC2
  by_cases c3 : a0 ≥ 2
  ·rw [if_pos c3] at H
   have c3b0 : decide (2 ≤ a0) = true := decide_eq_true c3
   clear c3
   (first | rw [c3b0] | (simp only [i64_w, i32_w]; rw [c3b0]) | skip)
   have H' := Aside0.mk H
   clear H
   go_wp2
   go_meet
   case rel => exact ⟨_, (decide (a0 ≤ 7)), Z1, H', ⟨Z26⟩, ⟨Z0⟩⟩
  ·rw [if_neg c3] at H
   have c3b0 : decide (2 ≤ a0) = false := decide_eq_false c3
   clear c3
   (first | rw [c3b0] | (simp only [i64_w, i32_w]; rw [c3b0]) | skip)
   have H' := Aside0.mk H
   clear H
   go_wp2
   go_meet
   case rel => exact ⟨_, (false), Z1, H', ⟨Z26⟩, ⟨Z0⟩⟩
 case rest =>
  clear HC2
  try clear c1
  try clear p2
  try clear c3
  try clear c3b0
  obtain ⟨kq, x10_1, rfl, HA, HJ1, HB⟩ := hcut
  cases kq with
  | zero => exact absurd HA.out (by simp [goscan_Follows.j0])
  | succ kj1 =>
   have H := HA.out
   clear HA
   simp only [goscan_Follows.j0] at H
   by_cases c4 : x10_1 = true
   ·subst c4
    have H1 : (some true) = some r := by rw [if_pos rfl] at H; exact H
    clear H
    have H := H1
    clear H1
    obtain rfl := Option.some.inj H
    go_wp2
    go_ret
    exact ⟨Z2, Z0⟩
   ·replace c4 := Bool.eq_false_iff.mpr c4
    subst c4
    have H1 : ((goscan_Text.f kj1 a0).bind fun bt415 => (if bt415.1.toList = ([98, 114, 101, 97, 107] : List UInt8) then (some true) else (if bt415.1.toList = ([99, 111, 110, 116, 105, 110, 117, 101] : List UInt8) then (some true) else (if bt415.1.toList = ([102, 97, 108, 108, 116, 104, 114, 111, 117, 103, 104] : List UInt8) then (some true) else (if bt415.1.toList = ([114, 101, 116, 117, 114, 110] : List UInt8) then (some true) else (if bt415.1.toList = ([43, 43] : List UInt8) then (some true) else (if bt415.1.toList = ([45, 45] : List UInt8) then (some true) else (if bt415.1.toList = ([41] : List UInt8) then (some true) else (if bt415.1.toList = ([93] : List UInt8) then (some true) else (if bt415.1.toList = ([125] : List UInt8) then (some true) else (some false))))))))))) = some r := by rw [if_neg (show ¬ (false = true) by decide)] at H; exact H
    clear H
    have H := H1
    clear H1
    replace H := bS H
    obtain ⟨⟨t415, t416⟩, A5, H⟩ := H
    try dsimp only at H
    by_cases c6 : t415.toList = ([98, 114, 101, 97, 107] : List UInt8)
    ·rw [if_pos c6] at H
     have c6b0 := e1 c6
     have c6b1 := e2 c6
     clear c6
     obtain rfl := Option.some.inj H
     go_wp2_with (first | (refine gR (some 13) Try.func19 (goscan_Text.calls A5.out) (h := ?_); rintro w7 hb; replace HB := Aside0.mk (below_step zB hb); (try clear hb); (try clear hb2); (try clear hk); (try clear hi)))
     go_ret
     exact ⟨Z2, Z0⟩
    ·rw [if_neg c6] at H
     have c6b0 := e3 c6
     have c6b1 := e4 c6
     by_cases c8 : t415.toList = ([99, 111, 110, 116, 105, 110, 117, 101] : List UInt8)
     ·rw [if_pos c8] at H
      have c8b0 := e1 c8
      have c8b1 := e2 c8
      clear c8
      obtain rfl := Option.some.inj H
      go_wp2_with (first | (refine gR (some 13) Try.func19 (goscan_Text.calls A5.out) (h := ?_); rintro w9 hb; replace HB := Aside0.mk (below_step zB hb); (try clear hb); (try clear hb2); (try clear hk); (try clear hi)))
      go_ret
      exact ⟨Z2, Z0⟩
     ·rw [if_neg c8] at H
      have c8b0 := e3 c8
      have c8b1 := e4 c8
      by_cases c10 : t415.toList = ([102, 97, 108, 108, 116, 104, 114, 111, 117, 103, 104] : List UInt8)
      ·rw [if_pos c10] at H
       have c10b0 := e1 c10
       have c10b1 := e2 c10
       clear c10
       obtain rfl := Option.some.inj H
       go_wp2_with (first | (refine gR (some 13) Try.func19 (goscan_Text.calls A5.out) (h := ?_); rintro w11 hb; replace HB := Aside0.mk (below_step zB hb); (try clear hb); (try clear hb2); (try clear hk); (try clear hi)))
       go_ret
       exact ⟨Z2, Z0⟩
      ·rw [if_neg c10] at H
       have c10b0 := e3 c10
       have c10b1 := e4 c10
       by_cases c12 : t415.toList = ([114, 101, 116, 117, 114, 110] : List UInt8)
       ·rw [if_pos c12] at H
        have c12b0 := e1 c12
        have c12b1 := e2 c12
        clear c12
        obtain rfl := Option.some.inj H
        go_wp2_with (first | (refine gR (some 13) Try.func19 (goscan_Text.calls A5.out) (h := ?_); rintro w13 hb; replace HB := Aside0.mk (below_step zB hb); (try clear hb); (try clear hb2); (try clear hk); (try clear hi)))
        go_ret
        exact ⟨Z2, Z0⟩
       ·rw [if_neg c12] at H
        have c12b0 := e3 c12
        have c12b1 := e4 c12
        by_cases c14 : t415.toList = ([43, 43] : List UInt8)
        ·rw [if_pos c14] at H
         have c14b0 := e1 c14
         have c14b1 := e2 c14
         clear c14
         obtain rfl := Option.some.inj H
         go_wp2_with (first | (refine gR (some 13) Try.func19 (goscan_Text.calls A5.out) (h := ?_); rintro w15 hb; replace HB := Aside0.mk (below_step zB hb); (try clear hb); (try clear hb2); (try clear hk); (try clear hi)))
         go_ret
         exact ⟨Z2, Z0⟩
        ·rw [if_neg c14] at H
         have c14b0 := e3 c14
         have c14b1 := e4 c14
         by_cases c16 : t415.toList = ([45, 45] : List UInt8)
         ·rw [if_pos c16] at H
          have c16b0 := e1 c16
          have c16b1 := e2 c16
          clear c16
          obtain rfl := Option.some.inj H
          go_wp2_with (first | (refine gR (some 13) Try.func19 (goscan_Text.calls A5.out) (h := ?_); rintro w17 hb; replace HB := Aside0.mk (below_step zB hb); (try clear hb); (try clear hb2); (try clear hk); (try clear hi)))
          go_ret
          exact ⟨Z2, Z0⟩
         ·rw [if_neg c16] at H
          have c16b0 := e3 c16
          have c16b1 := e4 c16
          by_cases c18 : t415.toList = ([41] : List UInt8)
          ·rw [if_pos c18] at H
           have c18b0 := e1 c18
           have c18b1 := e2 c18
           clear c18
           obtain rfl := Option.some.inj H
           go_wp2_with (first | (refine gR (some 13) Try.func19 (goscan_Text.calls A5.out) (h := ?_); rintro w19 hb; replace HB := Aside0.mk (below_step zB hb); (try clear hb); (try clear hb2); (try clear hk); (try clear hi)))
           go_ret
           exact ⟨Z2, Z0⟩
          ·rw [if_neg c18] at H
           have c18b0 := e3 c18
           have c18b1 := e4 c18
           by_cases c20 : t415.toList = ([93] : List UInt8)
           ·rw [if_pos c20] at H
            have c20b0 := e1 c20
            have c20b1 := e2 c20
            clear c20
            obtain rfl := Option.some.inj H
            go_wp2_with (first | (refine gR (some 13) Try.func19 (goscan_Text.calls A5.out) (h := ?_); rintro w21 hb; replace HB := Aside0.mk (below_step zB hb); (try clear hb); (try clear hb2); (try clear hk); (try clear hi)))
            go_ret
            exact ⟨Z2, Z0⟩
           ·rw [if_neg c20] at H
            have c20b0 := e3 c20
            have c20b1 := e4 c20
            by_cases c22 : t415.toList = ([125] : List UInt8)
            ·rw [if_pos c22] at H
             have c22b0 := e1 c22
             have c22b1 := e2 c22
             clear c22
             obtain rfl := Option.some.inj H
             go_wp2_with (first | (refine gR (some 13) Try.func19 (goscan_Text.calls A5.out) (h := ?_); rintro w23 hb; replace HB := Aside0.mk (below_step zB hb); (try clear hb); (try clear hb2); (try clear hk); (try clear hi)))
             go_ret
             exact ⟨Z2, Z0⟩
            ·rw [if_neg c22] at H
             have c22b0 := e3 c22
             have c22b1 := e4 c22
             obtain rfl := Option.some.inj H
             go_wp2_with (first | (refine gR (some 13) Try.func19 (goscan_Text.calls A5.out) (h := ?_); rintro w24 hb; replace HB := Aside0.mk (below_step zB hb); (try clear hb); (try clear hb2); (try clear hk); (try clear hi)))
             go_ret
             exact ⟨Z2, Z0⟩
end Go.Proofs.Ytcajiapjdlphmaa.H
