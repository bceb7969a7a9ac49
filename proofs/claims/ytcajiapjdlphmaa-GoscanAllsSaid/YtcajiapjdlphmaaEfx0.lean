import Derived.Test.YtcajiapjdlphmaaEPre
import Derived.Test.YtcajiapjdlphmaaEabcdefx0
import Derived.Test.YtcajiapjdlphmaaEabcdefx6
import Derived.Test.YtcajiapjdlphmaaEabcdefx7
import Derived.Test.YtcajiapjdlphmaaEbcefx0
import Derived.Test.YtcajiapjdlphmaaEbfx1
import Derived.Test.YtcajiapjdlphmaaEefx4
namespace Go.Proofs.Ytcajiapjdlphmaa.H
open Go.RowKit Go.Proofs.YtcajiapjdlphmaaW.PrintWords Go.Proofs.YtcajiapjdlphmaaW.PrintLast Go.Proofs.YtcajiapjdlphmaaW.PrintMore
attribute [local go_sem] max2_int min2_int max_two min_two max_three min_three max_four min_four
set_option linter.unusedVariables false
set_option linter.unusedSimpArgs false
section
attribute [local go_sem high] eqA25
def quoinref26_All.f (k : Nat) (a0 : ByteArray) : Option ((List (S36)) × Int × Int) := (quoinref26_Raw.f k a0).bind fun bt572 => (if (!(bt572.2.1 == 0) || (!(bt572.2.2 == 0))) = true then (some (([] : List (S36)), bt572.2.1, bt572.2.2)) else ((quoinref26_Insert.f k a0 bt572.1).bind fun bt578 => (if bt578.2 = 0 then (some (bt578.1, 0, 0)) else (some (([] : List (S36)), 3, (a0.size : Int))))))
set_option maxHeartbeats 8000000 in
set_option maxRecDepth 100000 in
theorem quoinref26_All.calls {k : Nat} {a0 : ByteArray} {r1 : List (S36)} {r2 : Int} {r3 : Int} {w : World} (h : quoinref26_All.f k a0 = some (r1, r2, r3)) :
  Calls Try.prog 16 #[.string a0] w fun e w' => ∃ v0_ : Value, e = .returned (.tuple #[v0_, .agg #[.int .i64 r2, .int .i64 r3]]) ∧ Kd.R k36 36 w' w.heap.size (fun _ => True) v0_ r1 ∧ Below w.heap.size w w' := by
 have hu25 := Try.underlying25
 have HB := Aside0.mk (Below.refl w.heap.size w)
 have H : ((quoinref26_Raw.f k a0).bind fun bt572 => (if (!(bt572.2.1 == 0) || (!(bt572.2.2 == 0))) = true then (some (([] : List (S36)), bt572.2.1, bt572.2.2)) else ((quoinref26_Insert.f k a0 bt572.1).bind fun bt578 => (if bt578.2 = 0 then (some (bt578.1, 0, 0)) else (some (([] : List (S36)), 3, (a0.size : Int))))))) = some (r1, r2, r3) := h
 clear h
 replace H := bS H
 obtain ⟨⟨t572, t575, t576⟩, A2, H⟩ := H
 try dsimp only at H
 by_cases c3 : (!(t575 == 0) || (!(t576 == 0))) = true
 ·rw [if_pos c3] at H
  have c3b0 : (!(t575 == 0) || (!(t576 == 0))) = true := c3
  clear c3
  simp only [Option.some.injEq, Prod.mk.injEq] at H
  obtain ⟨rfl, rfl, rfl⟩ := H
  go_enter Try.func16, Try.ntmps16
  try go_wp2_with (first | ((with_reducible refine gate_dst (N := 3) rfl ?_); refine box_event ?hg (N := 3) ?hd (cs := #[.int .i64 0, .int .i64 0]) (t := 25) ?hr ?_; (case hd => rfl); (case hg => rfl); (case hr => first | (go_simp; done) | (go_simp; rfl)); intro gb571 hg w4 hbox hb; have BK571 := Aside0.mk (hbox); have GW571 := gE hg zB; have GE571 := gE hg zB; replace HB := Aside0.mk (below_step zB hb); clear hb hbox hg) | (refine gQ (some 10) Try.func10 (quoinref26_Raw.calls A2.out) (h := ?_); rintro v573 w5 ⟨ho0, hb⟩; have HO574 := Aside0.mk (Kd.R_lower ho0 (below_size zB)); replace BK571 := Aside0.mk (blk_below (g := gb571) (o := .cells #[.int .i64 0, .int .i64 0] 25 (0, 0)) (bK BK571) hb); replace HB := Aside0.mk (below_step zB hb); (try clear hb); (try clear hb2); (try clear hk); (try clear hi); (try clear ho0)) | ((with_reducible refine gate_dst (N := 5) rfl ?_); refine box_event ?hg (N := 5) ?hd (cs := #[.int .i64 0, .int .i64 0]) (t := 25) ?hr ?_; (case hd => rfl); (case hg => rfl); (case hr => first | (go_simp; done) | (go_simp; rfl)); intro gb577 hg w6 hbox hb; have n0_ := Aside0.mk (Kd.R_below (kK HO574) hb); have n1_ := Aside0.mk (blk_below (g := gb571) (o := .cells #[.int .i64 0, .int .i64 0] 25 (0, 0)) (bK BK571) hb); have n2_ := Aside0.mk (below_step zB hb); have n3_ := Aside0.mk (hbox); have n4_ := gE hg zB; have n5_ := gE hg zB; have n6_ := Aside0.mk ((by rw [hg]; exact Nat.ne_of_lt (blk_lt (g := gb571) (o := .cells #[.int .i64 0, .int .i64 0] 25 (0, 0)) (bK BK571)) : gb571 ≠ gb577)); have n7_ := Aside0.mk ((by rw [hg]; exact Nat.ne_of_gt (blk_lt (g := gb571) (o := .cells #[.int .i64 0, .int .i64 0] 25 (0, 0)) (bK BK571)) : gb577 ≠ gb571)); clear HO574; clear BK571; clear HB; have HO574 := n0_; have BK571 := n1_; have HB := n2_; have BK577 := n3_; have GW577 := n4_; have GE577 := n5_; have NB571_577 := n6_; have NB577_571 := n7_; clear n0_ n1_ n2_ n3_ n4_ n5_ n6_ n7_; clear hb hbox hg; have hnb7 := NB577_571.out; have hnc7 := NB571_577.out; have hcz8_0 := bC BK577 0 (.int .i64 0); have hcz8_1 := bC BK577 1 (.int .i64 0); have hfz8_0 := blk_frozen BK577.out 0; have hfz8_1 := blk_frozen BK577.out 1))
  have n0_ : Aside0 (Kd.R k36 36 ((w6.setCell ⟨gb577, 0, none⟩ (.int .i64 t575)).setCell ⟨gb577, 1, none⟩ (.int .i64 t576)) w.heap.size (fun _ => True) v573 t572) := ⟨by (with_reducible repeat (first | apply Kd.R_alloc | apply Kd.R_drewN | apply Kd.R_drew)); exact Kd.R_mono (Kd.R_far (p := ⟨gb577, 1, none⟩) (Kd.R_far (p := ⟨gb577, 0, none⟩) (Kd.R_types HO574.out BK577.out Z43) (fun _ hk => hk.2) (.int .i64 t575)) (fun _ hk => hk.2) (.int .i64 t576)) (fun _ hk => trivial)⟩
  have n1_ : Aside0 (((w6.setCell ⟨gb577, 0, none⟩ (.int .i64 t575)).setCell ⟨gb577, 1, none⟩ (.int .i64 t576)).heap[gb571]? = some (.cells #[.int .i64 0, .int .i64 0] 25 (0, 0))) := ⟨Z45⟩
  have n2_ : Aside0 (((w6.setCell ⟨gb577, 0, none⟩ (.int .i64 t575)).setCell ⟨gb577, 1, none⟩ (.int .i64 t576)).heap[gb577]? = some (.cells #[.int .i64 t575, .int .i64 t576] 25 (0, 0))) := ⟨Z32⟩
  have n3_ : Aside0 (Below w.heap.size w ((w6.setCell ⟨gb577, 0, none⟩ (.int .i64 t575)).setCell ⟨gb577, 1, none⟩ (.int .i64 t576))) := ⟨Z0⟩
  (try clear HO574)
  (try clear BK571)
  (try clear BK577)
  (try clear HB)
  generalize ((w6.setCell ⟨gb577, 0, none⟩ (.int .i64 t575)).setCell ⟨gb577, 1, none⟩ (.int .i64 t576)) = w9 at n0_ n1_ n2_ n3_ ⊢
  have HO574 := n0_
  have BK571 := n1_
  have BK577 := n2_
  have HB := n3_
  clear n0_ n1_ n2_ n3_
  replace HO574 := Aside0.mk (Kd.R_drew HO574.out)
  replace BK571 := Aside0.mk (blk_drew BK571.out)
  replace BK577 := Aside0.mk (blk_drew BK577.out)
  replace HB := Aside0.mk (below_drew1 HB.out)
  refine start_ (n := 3) (S := fun w' => w'.cell? ⟨gb577, 0, none⟩ = some (.int .i64 t575) ∧ w'.cell? ⟨gb577, 1, none⟩ = some (.int .i64 t576)) (ds := []) #[false, false, false] Z5 rfl rfl ⟨(blk_cell BK577.out 0).trans rfl, (blk_cell BK577.out 1).trans rfl⟩ (fun hHeld => ?_)
  generalize w9.drew = w10 at HO574 BK571 BK577 HB hHeld ⊢
  refine pU 1 2 (hc := Z5) (h := ?_)
  refine take_ (i := 0) (N := some 16) (v := ?_) (a' := ?_) #[true, true, false] rfl rfl Z5 (fun _ _ _ h => h) (Or.inl ⟨Z67, ?_⟩) hHeld ?_ ?_
  rotate_left
  ·rintro w' ⟨s0, s1⟩
   go_simp
   with_reducible rfl
  rotate_left
  ·simp only [Act.put, List.setIfInBounds_toArray, List.set_cons_zero, List.set_cons_succ, i64_w, i32_w]
   rfl
  refine oN 2 (none) (hc := Z5) (h := fun K hK => ?_)
  have hs11 := bC BK571 0 (.int .i64 0)
  have hfs11 := blk_frozen BK571.out 0
  have hns11_1 := NB577_571.out
  have hms11_1 := NB571_577.out
  have hs12 := bC BK571 1 (.int .i64 0)
  have hfs12 := blk_frozen BK571.out 1
  have hns12_1 := NB577_571.out
  have hms12_1 := NB571_577.out
  refine skip_ (w1 := ?_) Z67 rfl ?_ ?_
  rotate_left
  ·go_simp
   rfl
  refine hK.out _ _ ⟨((cell_far (p := ⟨gb571, _, none⟩) NB577_571.out _).trans (((cell_far (p := ⟨gb571, _, none⟩) NB577_571.out _).trans (hHeld.1)))), ((cell_far (p := ⟨gb571, _, none⟩) NB577_571.out _).trans (((cell_far (p := ⟨gb571, _, none⟩) NB577_571.out _).trans (hHeld.2))))⟩ (fun hHeld => ?_)
  clear hK K
  refine done_ Z5 ?_
  try go_wp2
  refine bodyPost_ret (results_tc rfl _ _ gb571 25 #[.int .i64 t575, .int .i64 t576] (0, 0) _ rfl (by (with_reducible repeat (first | refine blk_drewN ?_ _ | refine blk_drew ?_ | refine blk_alloc ?_ _)); refine blk_put (cs := #[.int .i64 t575, .int .i64 0]) ?_ 1 _ rfl; (with_reducible repeat (first | refine blk_drewN ?_ _ | refine blk_drew ?_ | refine blk_alloc ?_ _)); refine blk_put (cs := #[.int .i64 0, .int .i64 0]) ?_ 0 _ rfl; (with_reducible repeat (first | refine blk_drewN ?_ _ | refine blk_drew ?_ | refine blk_alloc ?_ _)); exact BK571.out) Try.underlying25 rfl Z5) rfl ?_
  exact ⟨_, Z2, Z10, Z0⟩
 ·rw [if_neg c3] at H
  have c3b0 : (!(t575 == 0) || (!(t576 == 0))) = false := by simpa using c3
  clear c3
  replace H := bS H
  obtain ⟨⟨t578, t579⟩, A13, H⟩ := H
  try dsimp only at H
  by_cases c14 : t579 = 0
  ·rw [if_pos c14] at H
   have c14b0 := e1 c14
   have c14b1 := e2 c14
   clear c14
   simp only [Option.some.injEq, Prod.mk.injEq] at H
   obtain ⟨rfl, rfl, rfl⟩ := H
   go_enter Try.func16, Try.ntmps16
   go_wp2_with (first | ((with_reducible refine gate_dst (N := 3) rfl ?_); refine box_event ?hg (N := 3) ?hd (cs := #[.int .i64 0, .int .i64 0]) (t := 25) ?hr ?_; (case hd => rfl); (case hg => rfl); (case hr => first | (go_simp; done) | (go_simp; rfl)); intro gb571 hg w15 hbox hb; have BK571 := Aside0.mk (hbox); have GW571 := gE hg zB; have GE571 := gE hg zB; replace HB := Aside0.mk (below_step zB hb); clear hb hbox hg) | (refine gQ (some 10) Try.func10 (quoinref26_Raw.calls A2.out) (h := ?_); rintro v573 w16 ⟨ho0, hb⟩; have HO574 := Aside0.mk (Kd.R_lower ho0 (below_size zB)); replace BK571 := Aside0.mk (blk_below (g := gb571) (o := .cells #[.int .i64 0, .int .i64 0] 25 (0, 0)) (bK BK571) hb); replace HB := Aside0.mk (below_step zB hb); (try clear hb); (try clear hb2); (try clear hk); (try clear hi); (try clear ho0)) | ((with_reducible refine gate_dst (N := 5) rfl ?_); refine box_event ?hg (N := 5) ?hd (cs := #[.int .i64 0, .int .i64 0]) (t := 25) ?hr ?_; (case hd => rfl); (case hg => rfl); (case hr => first | (go_simp; done) | (go_simp; rfl)); intro gb577 hg w17 hbox hb; have n0_ := Aside0.mk (Kd.R_below (kK HO574) hb); have n1_ := Aside0.mk (blk_below (g := gb571) (o := .cells #[.int .i64 0, .int .i64 0] 25 (0, 0)) (bK BK571) hb); have n2_ := Aside0.mk (below_step zB hb); have n3_ := Aside0.mk (hbox); have n4_ := gE hg zB; have n5_ := gE hg zB; have n6_ := Aside0.mk ((by rw [hg]; exact Nat.ne_of_lt (blk_lt (g := gb571) (o := .cells #[.int .i64 0, .int .i64 0] 25 (0, 0)) (bK BK571)) : gb571 ≠ gb577)); have n7_ := Aside0.mk ((by rw [hg]; exact Nat.ne_of_gt (blk_lt (g := gb571) (o := .cells #[.int .i64 0, .int .i64 0] 25 (0, 0)) (bK BK571)) : gb577 ≠ gb571)); clear HO574; clear BK571; clear HB; have HO574 := n0_; have BK571 := n1_; have HB := n2_; have BK577 := n3_; have GW577 := n4_; have GE577 := n5_; have NB571_577 := n6_; have NB577_571 := n7_; clear n0_ n1_ n2_ n3_ n4_ n5_ n6_ n7_; clear hb hbox hg; have hnb18 := NB577_571.out; have hnc18 := NB571_577.out; have hcz19_0 := bC BK577 0 (.int .i64 0); have hcz19_1 := bC BK577 1 (.int .i64 0); have hfz19_0 := blk_frozen BK577.out 0; have hfz19_1 := blk_frozen BK577.out 1; obtain ⟨Ao20, co20, eo20⟩ := Kd.R_slice HO574.out; subst eo20) | (refine gL (some 20) Try.func14 #[.string a0, .slice Ao20 t572.length co20] (h := ?_); (with_reducible refine (quoinref26_Insert.calls k a0 _ _ t572 t578 t579 _ ?side1 ?side2 A13.out).mono ?_); (case side1 => refine (Kd.R_reads' (e := 36) (base := w.heap.size) (ok := fun k_ => True) (n := t572.length) (c := co20) ?_).2.2; exact Z17); (case side2 => exact (Kd.R_reads' HO574.out).2.1); rintro e w21 ⟨v580, rfl, ho0, hb⟩; refine ⟨_, rfl, ?_⟩; have n0_ := Aside0.mk (Kd.R_elder' Z17 (Kd.R_base ho0) hb); have n1_ := Aside0.mk (Kd.R_lower (Kd.R_new' ho0 (Kd.R_lt Z17)) (below_size zB)); have n2_ := Aside0.mk (blk_below (g := gb571) (o := .cells #[.int .i64 0, .int .i64 0] 25 (0, 0)) Z45 hb); have n3_ := Aside0.mk (blk_below (g := gb577) (o := .cells #[.int .i64 t575, .int .i64 t576] 25 (0, 0)) Z32 hb); have n4_ := Aside0.mk (below_step zB hb); clear HO574; clear BK571; clear BK577; clear HB; have HO574 := n0_; have HO581 := n1_; have BK571 := n2_; have BK577 := n3_; have HB := n4_; clear n0_ n1_ n2_ n3_ n4_; (try clear hb); (try clear hb2); (try clear hk); (try clear hi); (try clear ho0); have hcz22_0 := bC BK571 0 (.int .i64 0); have hcz22_1 := bC BK571 1 (.int .i64 0); have hfz22_0 := blk_frozen BK571.out 0; have hfz22_1 := blk_frozen BK571.out 1))
   refine bodyPost_ret (results_tc rfl _ _ gb571 25 #[.int .i64 0, .int .i64 0] (0, 0) _ rfl (by (with_reducible repeat (first | refine blk_drewN ?_ _ | refine blk_drew ?_ | refine blk_alloc ?_ _)); refine blk_put (cs := #[.int .i64 0, .int .i64 0]) ?_ 1 _ rfl; (with_reducible repeat (first | refine blk_drewN ?_ _ | refine blk_drew ?_ | refine blk_alloc ?_ _)); refine blk_put (cs := #[.int .i64 0, .int .i64 0]) ?_ 0 _ rfl; (with_reducible repeat (first | refine blk_drewN ?_ _ | refine blk_drew ?_ | refine blk_alloc ?_ _)); exact BK571.out) Try.underlying25 rfl Z5) rfl ?_
   exact ⟨_, Z2, by (with_reducible repeat (first | apply Kd.R_alloc | apply Kd.R_drewN | apply Kd.R_drew)); exact Kd.R_mono (Kd.R_far (p := ⟨gb571, 1, none⟩) (Kd.R_far (p := ⟨gb571, 0, none⟩) (Kd.R_types HO581.out BK571.out Z43) (fun _ hk => hk.2) (.int .i64 0)) (fun _ hk => hk.2) (.int .i64 0)) (fun _ hk => trivial), Z0⟩
  ·rw [if_neg c14] at H
   have c14b0 := e3 c14
   have c14b1 := e4 c14
   simp only [Option.some.injEq, Prod.mk.injEq] at H
   obtain ⟨rfl, rfl, rfl⟩ := H
   go_enter Try.func16, Try.ntmps16
   go_wp2_with (first | ((with_reducible refine gate_dst (N := 3) rfl ?_); refine box_event ?hg (N := 3) ?hd (cs := #[.int .i64 0, .int .i64 0]) (t := 25) ?hr ?_; (case hd => rfl); (case hg => rfl); (case hr => first | (go_simp; done) | (go_simp; rfl)); intro gb571 hg w23 hbox hb; have BK571 := Aside0.mk (hbox); have GW571 := gE hg zB; have GE571 := gE hg zB; replace HB := Aside0.mk (below_step zB hb); clear hb hbox hg) | (refine gQ (some 10) Try.func10 (quoinref26_Raw.calls A2.out) (h := ?_); rintro v573 w24 ⟨ho0, hb⟩; have HO574 := Aside0.mk (Kd.R_lower ho0 (below_size zB)); replace BK571 := Aside0.mk (blk_below (g := gb571) (o := .cells #[.int .i64 0, .int .i64 0] 25 (0, 0)) (bK BK571) hb); replace HB := Aside0.mk (below_step zB hb); (try clear hb); (try clear hb2); (try clear hk); (try clear hi); (try clear ho0)) | ((with_reducible refine gate_dst (N := 5) rfl ?_); refine box_event ?hg (N := 5) ?hd (cs := #[.int .i64 0, .int .i64 0]) (t := 25) ?hr ?_; (case hd => rfl); (case hg => rfl); (case hr => first | (go_simp; done) | (go_simp; rfl)); intro gb577 hg w25 hbox hb; have n0_ := Aside0.mk (Kd.R_below (kK HO574) hb); have n1_ := Aside0.mk (blk_below (g := gb571) (o := .cells #[.int .i64 0, .int .i64 0] 25 (0, 0)) (bK BK571) hb); have n2_ := Aside0.mk (below_step zB hb); have n3_ := Aside0.mk (hbox); have n4_ := gE hg zB; have n5_ := gE hg zB; have n6_ := Aside0.mk ((by rw [hg]; exact Nat.ne_of_lt (blk_lt (g := gb571) (o := .cells #[.int .i64 0, .int .i64 0] 25 (0, 0)) (bK BK571)) : gb571 ≠ gb577)); have n7_ := Aside0.mk ((by rw [hg]; exact Nat.ne_of_gt (blk_lt (g := gb571) (o := .cells #[.int .i64 0, .int .i64 0] 25 (0, 0)) (bK BK571)) : gb577 ≠ gb571)); clear HO574; clear BK571; clear HB; have HO574 := n0_; have BK571 := n1_; have HB := n2_; have BK577 := n3_; have GW577 := n4_; have GE577 := n5_; have NB571_577 := n6_; have NB577_571 := n7_; clear n0_ n1_ n2_ n3_ n4_ n5_ n6_ n7_; clear hb hbox hg; have hnb26 := NB577_571.out; have hnc26 := NB571_577.out; have hcz27_0 := bC BK577 0 (.int .i64 0); have hcz27_1 := bC BK577 1 (.int .i64 0); have hfz27_0 := blk_frozen BK577.out 0; have hfz27_1 := blk_frozen BK577.out 1; obtain ⟨Ao28, co28, eo28⟩ := Kd.R_slice HO574.out; subst eo28) | (refine gL (some 20) Try.func14 #[.string a0, .slice Ao28 t572.length co28] (h := ?_); (with_reducible refine (quoinref26_Insert.calls k a0 _ _ t572 t578 t579 _ ?side1 ?side2 A13.out).mono ?_); (case side1 => refine (Kd.R_reads' (e := 36) (base := w.heap.size) (ok := fun k_ => True) (n := t572.length) (c := co28) ?_).2.2; exact Z17); (case side2 => exact (Kd.R_reads' HO574.out).2.1); rintro e w29 ⟨v580, rfl, ho0, hb⟩; refine ⟨_, rfl, ?_⟩; have n0_ := Aside0.mk (Kd.R_elder' Z17 (Kd.R_base ho0) hb); have n1_ := Aside0.mk (Kd.R_lower (Kd.R_new' ho0 (Kd.R_lt Z17)) (below_size zB)); have n2_ := Aside0.mk (blk_below (g := gb571) (o := .cells #[.int .i64 0, .int .i64 0] 25 (0, 0)) Z45 hb); have n3_ := Aside0.mk (blk_below (g := gb577) (o := .cells #[.int .i64 t575, .int .i64 t576] 25 (0, 0)) Z32 hb); have n4_ := Aside0.mk (below_step zB hb); clear HO574; clear BK571; clear BK577; clear HB; have HO574 := n0_; have HO581 := n1_; have BK571 := n2_; have BK577 := n3_; have HB := n4_; clear n0_ n1_ n2_ n3_ n4_; (try clear hb); (try clear hb2); (try clear hk); (try clear hi); (try clear ho0); have hcz30_0 := bC BK571 0 (.int .i64 0); have hcz30_1 := bC BK571 1 (.int .i64 0); have hfz30_0 := blk_frozen BK571.out 0; have hfz30_1 := blk_frozen BK571.out 1))
   refine bodyPost_ret (results_tc rfl _ _ gb571 25 #[.int .i64 3, .int .i64 (a0.size : Int)] (0, 0) _ rfl (by (with_reducible repeat (first | refine blk_drewN ?_ _ | refine blk_drew ?_ | refine blk_alloc ?_ _)); refine blk_put (cs := #[.int .i64 3, .int .i64 0]) ?_ 1 _ rfl; (with_reducible repeat (first | refine blk_drewN ?_ _ | refine blk_drew ?_ | refine blk_alloc ?_ _)); refine blk_put (cs := #[.int .i64 0, .int .i64 0]) ?_ 0 _ rfl; (with_reducible repeat (first | refine blk_drewN ?_ _ | refine blk_drew ?_ | refine blk_alloc ?_ _)); exact BK571.out) Try.underlying25 rfl Z5) rfl ?_
   exact ⟨_, Z2, Z10, Z0⟩
end
section
attribute [local go_sem high] eqA25
def quoinlaw26_GoscanAlls.f (k : Nat) (a0 : ByteArray) : Option (Bool) := (goscan_All.f k a0).bind fun bt582 => ((quoinref26_All.f k a0).bind fun bt588 => ((quoinref07_Same.f k bt582.1 bt588.1).bind fun t594 => (if t594 = true then (if (bt582.2.1 == bt588.2.1 && (bt582.2.2 == bt588.2.2)) = true then ((quoinlaw26_awake.f k).bind fun t595 => (some t595)) else (some false)) else (some false))))
set_option maxHeartbeats 8000000 in
set_option maxRecDepth 100000 in
theorem quoinlaw26_GoscanAlls.calls {k : Nat} {a0 : ByteArray} {r : Bool} {w : World} (h : quoinlaw26_GoscanAlls.f k a0 = some r) :
  Calls Try.prog 5 #[.string a0] w fun e w' => e = .returned (.bool r) ∧ Below w.heap.size w w' := by
 have hu25 := Try.underlying25
 have HB := Aside0.mk (Below.refl w.heap.size w)
 have H : ((goscan_All.f k a0).bind fun bt582 => ((quoinref26_All.f k a0).bind fun bt588 => ((quoinref07_Same.f k bt582.1 bt588.1).bind fun t594 => (if t594 = true then (if (bt582.2.1 == bt588.2.1 && (bt582.2.2 == bt588.2.2)) = true then ((quoinlaw26_awake.f k).bind fun t595 => (some t595)) else (some false)) else (some false))))) = some r := h
 clear h
 replace H := bS H
 obtain ⟨⟨t582, t585, t586⟩, A2, H⟩ := H
 try dsimp only at H
 replace H := bS H
 obtain ⟨⟨t588, t591, t592⟩, A3, H⟩ := H
 try dsimp only at H
 replace H := bS H
 obtain ⟨t594, A4, H⟩ := H
 try dsimp only at H
 by_cases c5 : t594 = true
 ·subst c5
  have H1 : (if (t585 == t591 && (t586 == t592)) = true then ((quoinlaw26_awake.f k).bind fun t595 => (some t595)) else (some false)) = some r := by rw [if_pos rfl] at H; exact H
  clear H
  have H := H1
  clear H1
  by_cases c6 : (t585 == t591 && (t586 == t592)) = true
  ·rw [if_pos c6] at H
   have c6b0 : (t585 == t591 && (t586 == t592)) = true := c6
   (try (have c6b1 : decide (t585 = t591 && (t586 == t592)) = true := by simpa using c6))
   (try (have c6b2 : (t585 == t591 && (t586 == t592)) = true := by simpa using c6))
   clear c6
   replace H := bS H
   obtain ⟨t595, A7, H⟩ := H
   try dsimp only at H
   obtain rfl := Option.some.inj H
   go_enter Try.func5, Try.ntmps5
   go_wp2_with (first | (refine gQ (some 9) Try.func15 (goscan_All.calls A2.out) (h := ?_); rintro v583 w8 ⟨ho0, hb⟩; have HO584 := Aside0.mk (Kd.R_lower ho0 (below_size zB)); replace HB := Aside0.mk (below_step zB hb); (try clear hb); (try clear hb2); (try clear hk); (try clear hi); (try clear ho0)) | ((with_reducible refine gate_dst (N := 4) rfl ?_); refine box_event ?hg (N := 4) ?hd (cs := #[.int .i64 0, .int .i64 0]) (t := 25) ?hr ?_; (case hd => rfl); (case hg => rfl); (case hr => first | (go_simp; done) | (go_simp; rfl)); intro gb587 hg w9 hbox hb; replace HO584 := Aside0.mk (Kd.R_below (kK HO584) hb); have BK587 := Aside0.mk (hbox); have GW587 := gE hg zB; have GE587 := gE hg zB; replace HB := Aside0.mk (below_step zB hb); clear hb hbox hg; have hcz10_0 := bC BK587 0 (.int .i64 0); have hcz10_1 := bC BK587 1 (.int .i64 0); have hfz10_0 := blk_frozen BK587.out 0; have hfz10_1 := blk_frozen BK587.out 1) | (refine gQ (some 14) Try.func16 (quoinref26_All.calls A3.out) (h := ?_); rintro v589 w11 ⟨ho0, hb⟩; have n0_ := Aside0.mk (Kd.R_elder' Z16 (Kd.R_base ho0) hb); have n1_ := Aside0.mk (Kd.R_lower (Kd.R_new' ho0 (Kd.R_lt Z16)) (below_size zB)); have n2_ := Aside0.mk (blk_below (g := gb587) (o := .cells #[.int .i64 t585, .int .i64 t586] 25 (0, 0)) Z31 hb); have n3_ := Aside0.mk (below_step zB hb); clear HO584; clear BK587; clear HB; have HO584 := n0_; have HO590 := n1_; have BK587 := n2_; have HB := n3_; clear n0_ n1_ n2_ n3_; (try clear hb); (try clear hb2); (try clear hk); (try clear hi); (try clear ho0)) | ((with_reducible refine gate_dst (N := 6) rfl ?_); refine box_event ?hg (N := 6) ?hd (cs := #[.int .i64 0, .int .i64 0]) (t := 25) ?hr ?_; (case hd => rfl); (case hg => rfl); (case hr => first | (go_simp; done) | (go_simp; rfl)); intro gb593 hg w12 hbox hb; have n0_ := Aside0.mk (Kd.R_below (kK HO584) hb); have n1_ := Aside0.mk (Kd.R_below (kK HO590) hb); have n2_ := Aside0.mk (blk_below (g := gb587) (o := .cells #[.int .i64 t585, .int .i64 t586] 25 (0, 0)) (bK BK587) hb); have n3_ := Aside0.mk (below_step zB hb); have n4_ := Aside0.mk (hbox); have n5_ := gE hg zB; have n6_ := gE hg zB; have n7_ := Aside0.mk ((by rw [hg]; exact Nat.ne_of_lt (blk_lt (g := gb587) (o := .cells #[.int .i64 t585, .int .i64 t586] 25 (0, 0)) (bK BK587)) : gb587 ≠ gb593)); have n8_ := Aside0.mk ((by rw [hg]; exact Nat.ne_of_gt (blk_lt (g := gb587) (o := .cells #[.int .i64 t585, .int .i64 t586] 25 (0, 0)) (bK BK587)) : gb593 ≠ gb587)); clear HO584; clear HO590; clear BK587; clear HB; have HO584 := n0_; have HO590 := n1_; have BK587 := n2_; have HB := n3_; have BK593 := n4_; have GW593 := n5_; have GE593 := n6_; have NB587_593 := n7_; have NB593_587 := n8_; clear n0_ n1_ n2_ n3_ n4_ n5_ n6_ n7_ n8_; clear hb hbox hg; have hnb13 := NB593_587.out; have hnc13 := NB587_593.out; have hcz14_0 := bC BK593 0 (.int .i64 0); have hcz14_1 := bC BK593 1 (.int .i64 0); have hfz14_0 := blk_frozen BK593.out 0; have hfz14_1 := blk_frozen BK593.out 1; obtain ⟨Ao15, co15, eo15⟩ := Kd.R_slice HO584.out; subst eo15; obtain ⟨Ao16, co16, eo16⟩ := Kd.R_slice HO590.out; subst eo16) | (refine gL (some 19) Try.func11 #[.slice Ao15 t582.length co15, .slice Ao16 t588.length co16] (h := ?_); (with_reducible refine (quoinref07_Same.calls k _ _ t582 _ _ t588 true _ ?side1 ?side2 ?side3 ?side4 A4.out).mono ?_); (case side1 => refine (Kd.R_reads' (e := 36) (base := w.heap.size) (ok := fun k_ => (True ∧ some k_ ≠ (.slice Ao16 t588.length co16 : Value).ownBlock)) (n := t582.length) (c := co15) ?_).2.2; exact Z39); (case side2 => exact (Kd.R_reads' HO584.out).2.1); (case side3 => refine (Kd.R_reads' (e := 36) (base := w.heap.size) (ok := fun k_ => (True ∧ some k_ ≠ (.slice Ao15 t582.length co15 : Value).ownBlock)) (n := t588.length) (c := co16) ?_).2.2; exact Z38); (case side4 => exact (Kd.R_reads' HO590.out).2.1); rintro e w' ⟨rfl, ⟨nd, rfl⟩⟩; refine ⟨_, rfl, ?_⟩; have hcz17_0 := bC BK587 0 (.int .i64 t585); have hcz17_1 := bC BK587 1 (.int .i64 t586); have hfz17_0 := blk_frozen BK587.out 0; have hfz17_1 := blk_frozen BK587.out 1) | (go_at_call 12; (with_reducible refine (quoinlaw26_awake.calls A7.out).mono ?_); rintro e w18 ⟨rfl, hb⟩; have n0_ := Aside0.mk (Kd.R_below Z39 hb); have n1_ := Aside0.mk (Kd.R_below Z38 hb); have n2_ := Aside0.mk (blk_below (g := gb587) (o := .cells #[.int .i64 t585, .int .i64 t586] 25 (0, 0)) (by (with_reducible repeat (first | refine blk_drewN ?_ _ | refine blk_drew ?_ | refine blk_alloc ?_ _)); refine blk_far ?_ NB587_593.out _; (with_reducible repeat (first | refine blk_drewN ?_ _ | refine blk_drew ?_ | refine blk_alloc ?_ _)); refine blk_far ?_ NB587_593.out _; (with_reducible repeat (first | refine blk_drewN ?_ _ | refine blk_drew ?_ | refine blk_alloc ?_ _)); exact BK587.out) hb); have n3_ := Aside0.mk (blk_below (g := gb593) (o := .cells #[.int .i64 t591, .int .i64 t592] 25 (0, 0)) (by (with_reducible repeat (first | refine blk_drewN ?_ _ | refine blk_drew ?_ | refine blk_alloc ?_ _)); refine blk_put (cs := #[.int .i64 t591, .int .i64 0]) ?_ 1 _ rfl; (with_reducible repeat (first | refine blk_drewN ?_ _ | refine blk_drew ?_ | refine blk_alloc ?_ _)); refine blk_put (cs := #[.int .i64 0, .int .i64 0]) ?_ 0 _ rfl; (with_reducible repeat (first | refine blk_drewN ?_ _ | refine blk_drew ?_ | refine blk_alloc ?_ _)); exact BK593.out) hb); have n4_ := Aside0.mk (below_step zB hb); clear HO584; clear HO590; clear BK587; clear BK593; clear HB; have HO584 := n0_; have HO590 := n1_; have BK587 := n2_; have BK593 := n3_; have HB := n4_; clear n0_ n1_ n2_ n3_ n4_; (try clear hb); (try clear hb2); (try clear hk); (try clear hi)))
   go_ret
   exact ⟨Z2, Z0⟩
  ·rw [if_neg c6] at H
   have c6b0 : (t585 == t591 && (t586 == t592)) = false := by simpa using c6
   (try (have c6b1 : decide (t585 = t591 && (t586 == t592)) = false := by simpa using c6))
   (try (have c6b2 : (t585 == t591 && (t586 == t592)) = false := by simpa using c6))
   (try (have c6b3 : ¬ (t585 = t591 && (t586 == t592)) := by simpa using c6))
   clear c6
   obtain rfl := Option.some.inj H
   go_enter Try.func5, Try.ntmps5
   go_wp2_with (first | (refine gQ (some 9) Try.func15 (goscan_All.calls A2.out) (h := ?_); rintro v583 w19 ⟨ho0, hb⟩; have HO584 := Aside0.mk (Kd.R_lower ho0 (below_size zB)); replace HB := Aside0.mk (below_step zB hb); (try clear hb); (try clear hb2); (try clear hk); (try clear hi); (try clear ho0)) | ((with_reducible refine gate_dst (N := 4) rfl ?_); refine box_event ?hg (N := 4) ?hd (cs := #[.int .i64 0, .int .i64 0]) (t := 25) ?hr ?_; (case hd => rfl); (case hg => rfl); (case hr => first | (go_simp; done) | (go_simp; rfl)); intro gb587 hg w20 hbox hb; replace HO584 := Aside0.mk (Kd.R_below (kK HO584) hb); have BK587 := Aside0.mk (hbox); have GW587 := gE hg zB; have GE587 := gE hg zB; replace HB := Aside0.mk (below_step zB hb); clear hb hbox hg; have hcz21_0 := bC BK587 0 (.int .i64 0); have hcz21_1 := bC BK587 1 (.int .i64 0); have hfz21_0 := blk_frozen BK587.out 0; have hfz21_1 := blk_frozen BK587.out 1) | (refine gQ (some 14) Try.func16 (quoinref26_All.calls A3.out) (h := ?_); rintro v589 w22 ⟨ho0, hb⟩; have n0_ := Aside0.mk (Kd.R_elder' Z16 (Kd.R_base ho0) hb); have n1_ := Aside0.mk (Kd.R_lower (Kd.R_new' ho0 (Kd.R_lt Z16)) (below_size zB)); have n2_ := Aside0.mk (blk_below (g := gb587) (o := .cells #[.int .i64 t585, .int .i64 t586] 25 (0, 0)) Z31 hb); have n3_ := Aside0.mk (below_step zB hb); clear HO584; clear BK587; clear HB; have HO584 := n0_; have HO590 := n1_; have BK587 := n2_; have HB := n3_; clear n0_ n1_ n2_ n3_; (try clear hb); (try clear hb2); (try clear hk); (try clear hi); (try clear ho0)) | ((with_reducible refine gate_dst (N := 6) rfl ?_); refine box_event ?hg (N := 6) ?hd (cs := #[.int .i64 0, .int .i64 0]) (t := 25) ?hr ?_; (case hd => rfl); (case hg => rfl); (case hr => first | (go_simp; done) | (go_simp; rfl)); intro gb593 hg w23 hbox hb; have n0_ := Aside0.mk (Kd.R_below (kK HO584) hb); have n1_ := Aside0.mk (Kd.R_below (kK HO590) hb); have n2_ := Aside0.mk (blk_below (g := gb587) (o := .cells #[.int .i64 t585, .int .i64 t586] 25 (0, 0)) (bK BK587) hb); have n3_ := Aside0.mk (below_step zB hb); have n4_ := Aside0.mk (hbox); have n5_ := gE hg zB; have n6_ := gE hg zB; have n7_ := Aside0.mk ((by rw [hg]; exact Nat.ne_of_lt (blk_lt (g := gb587) (o := .cells #[.int .i64 t585, .int .i64 t586] 25 (0, 0)) (bK BK587)) : gb587 ≠ gb593)); have n8_ := Aside0.mk ((by rw [hg]; exact Nat.ne_of_gt (blk_lt (g := gb587) (o := .cells #[.int .i64 t585, .int .i64 t586] 25 (0, 0)) (bK BK587)) : gb593 ≠ gb587)); clear HO584; clear HO590; clear BK587; clear HB; have HO584 := n0_; have HO590 := n1_; have BK587 := n2_; have HB := n3_; have BK593 := n4_; have GW593 := n5_; have GE593 := n6_; have NB587_593 := n7_; have NB593_587 := n8_; clear n0_ n1_ n2_ n3_ n4_ n5_ n6_ n7_ n8_; clear hb hbox hg; have hnb24 := NB593_587.out; have hnc24 := NB587_593.out; have hcz25_0 := bC BK593 0 (.int .i64 0); have hcz25_1 := bC BK593 1 (.int .i64 0); have hfz25_0 := blk_frozen BK593.out 0; have hfz25_1 := blk_frozen BK593.out 1; obtain ⟨Ao26, co26, eo26⟩ := Kd.R_slice HO584.out; subst eo26; obtain ⟨Ao27, co27, eo27⟩ := Kd.R_slice HO590.out; subst eo27) | (refine gL (some 19) Try.func11 #[.slice Ao26 t582.length co26, .slice Ao27 t588.length co27] (h := ?_); (with_reducible refine (quoinref07_Same.calls k _ _ t582 _ _ t588 true _ ?side1 ?side2 ?side3 ?side4 A4.out).mono ?_); (case side1 => refine (Kd.R_reads' (e := 36) (base := w.heap.size) (ok := fun k_ => (True ∧ some k_ ≠ (.slice Ao27 t588.length co27 : Value).ownBlock)) (n := t582.length) (c := co26) ?_).2.2; exact Z39); (case side2 => exact (Kd.R_reads' HO584.out).2.1); (case side3 => refine (Kd.R_reads' (e := 36) (base := w.heap.size) (ok := fun k_ => (True ∧ some k_ ≠ (.slice Ao26 t582.length co26 : Value).ownBlock)) (n := t588.length) (c := co27) ?_).2.2; exact Z38); (case side4 => exact (Kd.R_reads' HO590.out).2.1); rintro e w' ⟨rfl, ⟨nd, rfl⟩⟩; refine ⟨_, rfl, ?_⟩; have hcz28_0 := bC BK587 0 (.int .i64 t585); have hcz28_1 := bC BK587 1 (.int .i64 t586); have hfz28_0 := blk_frozen BK587.out 0; have hfz28_1 := blk_frozen BK587.out 1))
   go_ret
   exact ⟨Z2, Z0⟩
 ·replace c5 := Bool.eq_false_iff.mpr c5
  subst c5
  have H1 : (some false) = some r := by rw [if_neg (show ¬ (false = true) by decide)] at H; exact H
  clear H
  have H := H1
  clear H1
  obtain rfl := Option.some.inj H
  go_enter Try.func5, Try.ntmps5
  go_wp2_with (first | (refine gQ (some 9) Try.func15 (goscan_All.calls A2.out) (h := ?_); rintro v583 w29 ⟨ho0, hb⟩; have HO584 := Aside0.mk (Kd.R_lower ho0 (below_size zB)); replace HB := Aside0.mk (below_step zB hb); (try clear hb); (try clear hb2); (try clear hk); (try clear hi); (try clear ho0)) | ((with_reducible refine gate_dst (N := 4) rfl ?_); refine box_event ?hg (N := 4) ?hd (cs := #[.int .i64 0, .int .i64 0]) (t := 25) ?hr ?_; (case hd => rfl); (case hg => rfl); (case hr => first | (go_simp; done) | (go_simp; rfl)); intro gb587 hg w30 hbox hb; replace HO584 := Aside0.mk (Kd.R_below (kK HO584) hb); have BK587 := Aside0.mk (hbox); have GW587 := gE hg zB; have GE587 := gE hg zB; replace HB := Aside0.mk (below_step zB hb); clear hb hbox hg; have hcz31_0 := bC BK587 0 (.int .i64 0); have hcz31_1 := bC BK587 1 (.int .i64 0); have hfz31_0 := blk_frozen BK587.out 0; have hfz31_1 := blk_frozen BK587.out 1) | (refine gQ (some 14) Try.func16 (quoinref26_All.calls A3.out) (h := ?_); rintro v589 w32 ⟨ho0, hb⟩; have n0_ := Aside0.mk (Kd.R_elder' Z16 (Kd.R_base ho0) hb); have n1_ := Aside0.mk (Kd.R_lower (Kd.R_new' ho0 (Kd.R_lt Z16)) (below_size zB)); have n2_ := Aside0.mk (blk_below (g := gb587) (o := .cells #[.int .i64 t585, .int .i64 t586] 25 (0, 0)) Z31 hb); have n3_ := Aside0.mk (below_step zB hb); clear HO584; clear BK587; clear HB; have HO584 := n0_; have HO590 := n1_; have BK587 := n2_; have HB := n3_; clear n0_ n1_ n2_ n3_; (try clear hb); (try clear hb2); (try clear hk); (try clear hi); (try clear ho0)) | ((with_reducible refine gate_dst (N := 6) rfl ?_); refine box_event ?hg (N := 6) ?hd (cs := #[.int .i64 0, .int .i64 0]) (t := 25) ?hr ?_; (case hd => rfl); (case hg => rfl); (case hr => first | (go_simp; done) | (go_simp; rfl)); intro gb593 hg w33 hbox hb; have n0_ := Aside0.mk (Kd.R_below (kK HO584) hb); have n1_ := Aside0.mk (Kd.R_below (kK HO590) hb); have n2_ := Aside0.mk (blk_below (g := gb587) (o := .cells #[.int .i64 t585, .int .i64 t586] 25 (0, 0)) (bK BK587) hb); have n3_ := Aside0.mk (below_step zB hb); have n4_ := Aside0.mk (hbox); have n5_ := gE hg zB; have n6_ := gE hg zB; have n7_ := Aside0.mk ((by rw [hg]; exact Nat.ne_of_lt (blk_lt (g := gb587) (o := .cells #[.int .i64 t585, .int .i64 t586] 25 (0, 0)) (bK BK587)) : gb587 ≠ gb593)); have n8_ := Aside0.mk ((by rw [hg]; exact Nat.ne_of_gt (blk_lt (g := gb587) (o := .cells #[.int .i64 t585, .int .i64 t586] 25 (0, 0)) (bK BK587)) : gb593 ≠ gb587)); clear HO584; clear HO590; clear BK587; clear HB; have HO584 := n0_; have HO590 := n1_; have BK587 := n2_; have HB := n3_; have BK593 := n4_; have GW593 := n5_; have GE593 := n6_; have NB587_593 := n7_; have NB593_587 := n8_; clear n0_ n1_ n2_ n3_ n4_ n5_ n6_ n7_ n8_; clear hb hbox hg; have hnb34 := NB593_587.out; have hnc34 := NB587_593.out; have hcz35_0 := bC BK593 0 (.int .i64 0); have hcz35_1 := bC BK593 1 (.int .i64 0); have hfz35_0 := blk_frozen BK593.out 0; have hfz35_1 := blk_frozen BK593.out 1; obtain ⟨Ao36, co36, eo36⟩ := Kd.R_slice HO584.out; subst eo36; obtain ⟨Ao37, co37, eo37⟩ := Kd.R_slice HO590.out; subst eo37) | (refine gL (some 19) Try.func11 #[.slice Ao36 t582.length co36, .slice Ao37 t588.length co37] (h := ?_); (with_reducible refine (quoinref07_Same.calls k _ _ t582 _ _ t588 false _ ?side1 ?side2 ?side3 ?side4 A4.out).mono ?_); (case side1 => refine (Kd.R_reads' (e := 36) (base := w.heap.size) (ok := fun k_ => (True ∧ some k_ ≠ (.slice Ao37 t588.length co37 : Value).ownBlock)) (n := t582.length) (c := co36) ?_).2.2; exact Z39); (case side2 => exact (Kd.R_reads' HO584.out).2.1); (case side3 => refine (Kd.R_reads' (e := 36) (base := w.heap.size) (ok := fun k_ => (True ∧ some k_ ≠ (.slice Ao36 t582.length co36 : Value).ownBlock)) (n := t588.length) (c := co37) ?_).2.2; exact Z38); (case side4 => exact (Kd.R_reads' HO590.out).2.1); rintro e w' ⟨rfl, ⟨nd, rfl⟩⟩; refine ⟨_, rfl, ?_⟩))
  go_ret
  exact ⟨Z2, Z0⟩
def quoinlaw26_GoscanAlls.Pure : Prop := ∀ (a0 : ByteArray), a0.size ≤ 140737488351232 → ∃ k, quoinlaw26_GoscanAlls.f k a0 = some true
theorem quoinlaw26_GoscanAlls.walk (P : quoinlaw26_GoscanAlls.Pure) (a0 : ByteArray) (w : World) (w0 : a0.size ≤ 140737488351232) :
  Calls Try.prog 5 #[.string a0] w fun e w' => e = .returned (.bool true) ∧ Below w.heap.size w w' := by
 obtain ⟨k, h⟩ := P a0 w0
 refine (quoinlaw26_GoscanAlls.calls h).mono ?_
 rintro e w' ⟨rfl, hd⟩
 exact ⟨rfl, hd⟩
end
end Go.Proofs.Ytcajiapjdlphmaa.H
