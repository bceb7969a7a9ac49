import Derived.Test.YtcajiapjdlphmaaEPre
import Derived.Test.YtcajiapjdlphmaaEabcdefx4
import Derived.Test.YtcajiapjdlphmaaEefx0
import Derived.Test.YtcajiapjdlphmaaEefx1
import Derived.Test.YtcajiapjdlphmaaEefx2
namespace Go.Proofs.Ytcajiapjdlphmaa.H
open Go.RowKit Go.Proofs.YtcajiapjdlphmaaW.PrintWords Go.Proofs.YtcajiapjdlphmaaW.PrintLast Go.Proofs.YtcajiapjdlphmaaW.PrintMore
attribute [local go_sem] max2_int min2_int max_two min_two max_three min_three max_four min_four
set_option linter.unusedVariables false
set_option linter.unusedSimpArgs false
mutual
def quoinref26_match.j0 : Nat → ByteArray → Int → List ByteArray → List ByteArray → Int → Int → Int → Option (Int × Int)
 | 0, _, _, _, _, _, _, _ => none
 | k + 1, x0, x1, x5, x6, x7, x360000, x360001 => (quoinref26_remark.f k x0 x1).bind fun t363 => ((quoinref26_best_with.f x360000 x360001 (wrap64 (x7 + 1)) t363).bind fun bt364 => ((quoinref26_comment.f k x0 x1).bind fun t366 => ((quoinref26_best_with.f bt364.1 bt364.2 (wrap64 (x7 + 2)) t366).bind fun bt367 => (quoinref26_match.l0 k x0 x1 x5 x6 0 bt367.1 bt367.2))))
def quoinref26_match.l0 : Nat → ByteArray → Int → List ByteArray → List ByteArray → Int → Int → Int → Option (Int × Int)
 | 0, _, _, _, _, _, _, _ => none
 | k + 1, x0, x1, x5, x6, x9, x360000, x360001 => if x9 < (x5.length : Int) then (if 0 ≤ (wrap64 (x9 + 1)) then (if (wrap64 (x9 + 1)) < (x5.length : Int) then (if (wrap64 (x1 + ((rdOf ByteArray.empty x5 (wrap64 (x9 + 1))).size : Int))) ≤ (x0.size : Int) then (if 0 ≤ x1 then (if x1 ≤ (wrap64 (x1 + ((rdOf ByteArray.empty x5 (wrap64 (x9 + 1))).size : Int))) then (if (x0.extract (x1 : Int).toNat ((wrap64 (x1 + ((rdOf ByteArray.empty x5 (wrap64 (x9 + 1))).size : Int))) : Int).toNat).toList = (rdOf ByteArray.empty x5 (wrap64 (x9 + 1))).toList then ((quoinref26_best_with.f x360000 x360001 (wrap64 (8 + (wrap64 (Int.tdiv x9 2)))) (wrap64 (x1 + ((rdOf ByteArray.empty x5 (wrap64 (x9 + 1))).size : Int)))).bind fun bt373 => (quoinref26_match.l0 k x0 x1 x5 x6 (wrap64 (x9 + 2)) bt373.1 bt373.2)) else (quoinref26_match.l0 k x0 x1 x5 x6 (wrap64 (x9 + 2)) x360000 x360001)) else (none)) else (none)) else (quoinref26_match.l0 k x0 x1 x5 x6 (wrap64 (x9 + 2)) x360000 x360001)) else (none)) else (none)) else (quoinref26_match.l1 k x0 x1 x5 x6 0 x360000 x360001)
def quoinref26_match.l1 : Nat → ByteArray → Int → List ByteArray → List ByteArray → Int → Int → Int → Option (Int × Int)
 | 0, _, _, _, _, _, _, _ => none
 | k + 1, x0, x1, x5, x6, x10, x360000, x360001 => if x10 < (x6.length : Int) then (if 0 ≤ x10 then (if (wrap64 (x1 + ((rdOf ByteArray.empty x6 x10).size : Int))) ≤ (x0.size : Int) then (if 0 ≤ x1 then (if x1 ≤ (wrap64 (x1 + ((rdOf ByteArray.empty x6 x10).size : Int))) then (if (x0.extract (x1 : Int).toNat ((wrap64 (x1 + ((rdOf ByteArray.empty x6 x10).size : Int))) : Int).toNat).toList = (rdOf ByteArray.empty x6 x10).toList then ((quoinref26_best_with.f x360000 x360001 (wrap64 ((wrap64 (8 + (wrap64 ((x5.length : Int) / 2)))) + x10)) (wrap64 (x1 + ((rdOf ByteArray.empty x6 x10).size : Int)))).bind fun bt379 => (quoinref26_match.l1 k x0 x1 x5 x6 (wrap64 (x10 + 1)) bt379.1 bt379.2)) else (quoinref26_match.l1 k x0 x1 x5 x6 (wrap64 (x10 + 1)) x360000 x360001)) else (none)) else (none)) else (quoinref26_match.l1 k x0 x1 x5 x6 (wrap64 (x10 + 1)) x360000 x360001)) else (none)) else ((quoinref26_word.f k x0 x1).bind fun t381 => ((quoinref26_best_with.f x360000 x360001 2 t381).bind fun bt382 => ((quoinref26_whole.f k x0 x1).bind fun t384 => ((quoinref26_best_with.f bt382.1 bt382.2 3 t384).bind fun bt385 => ((quoinref26_float.f k x0 x1).bind fun t387 => ((quoinref26_best_with.f bt385.1 bt385.2 4 t387).bind fun bt388 => ((quoinref26_imag.f k x0 x1).bind fun t390 => ((quoinref26_best_with.f bt388.1 bt388.2 5 t390).bind fun bt391 => ((quoinref26_char.f k x0 x1).bind fun t393 => ((quoinref26_best_with.f bt391.1 bt391.2 6 t393).bind fun bt394 => ((quoinref26_quoted.f k x0 x1).bind fun t396 => ((quoinref26_best_with.f bt394.1 bt394.2 7 t396).bind fun bt397 => (some (bt397.1, bt397.2))))))))))))))
end
def quoinref26_match.f (k : Nat) (a0 : ByteArray) (a1 : Int) : Option (Int × Int) := (quoinref26_operators.f).bind fun t352 => ((quoinref26_keywords.f).bind fun t355 => ((quoinref26_blanks.f k a0 a1).bind fun t358 => ((quoinref26_at.f a0 a1).bind fun t360 => (if t360 = 10 then ((quoinref26_best_with.f 0 t358 (wrap64 ((wrap64 (8 + (wrap64 ((t352.length : Int) / 2)))) + (t355.length : Int))) (wrap64 (a1 + 1))).bind fun bt361 => (quoinref26_match.j0 k a0 a1 t352 t355 (wrap64 ((wrap64 (8 + (wrap64 ((t352.length : Int) / 2)))) + (t355.length : Int))) bt361.1 bt361.2)) else (quoinref26_match.j0 k a0 a1 t352 t355 (wrap64 ((wrap64 (8 + (wrap64 ((t352.length : Int) / 2)))) + (t355.length : Int))) 0 t358)))))
def quoinref26_match.T6 : Bool × List (List Nat × List Nat) := (true, [([], []), ([], []), ([1], [1]), ([], []), ([], []), ([3, 4], [3, 4]), ([0, 2, 5, 5], [0, 2, 5]), ([6, 6, 0, 1, 2, 3, 4, 5, 6], [6])])
def quoinref26_match.B6 : List Nat := [0, 0, 2, 0, 0, 24, 63, 127]
theorem quoinref26_match.tab6 : rtab .any (opsOf Try.f31 6) = quoinref26_match.T6 := by kernel_rfl
theorem quoinref26_match.bits6 : waitsOk quoinref26_match.T6.2 quoinref26_match.B6 = true := by kernel_rfl
def quoinref26_match.T7 : Bool × List (List Nat × List Nat) := (true, [([], []), ([], []), ([1], [1]), ([], []), ([], []), ([3, 4], [3, 4]), ([0, 2, 5, 5], [0, 2, 5]), ([6, 6, 0, 1, 2, 3, 4, 5, 6], [6])])
def quoinref26_match.B7 : List Nat := [0, 0, 2, 0, 0, 24, 63, 127]
theorem quoinref26_match.tab7 : rtab .any (opsOf Try.f31 7) = quoinref26_match.T7 := by kernel_rfl
theorem quoinref26_match.bits7 : waitsOk quoinref26_match.T7.2 quoinref26_match.B7 = true := by kernel_rfl
def quoinref26_match.T11 : Bool × List (List Nat × List Nat) := (true, [([], []), ([], []), ([], []), ([2], [2]), ([1, 3], [1, 3]), ([4], [4]), ([5], [5]), ([0, 6], [0, 6]), ([], []), ([8], [8]), ([7, 9], [7, 9]), ([10], [10]), ([11], [11]), ([11], [11]), ([11], [11]), ([11], [11]), ([11], [11]), ([16, 11], [11, 16]), ([15, 17, 11], [11, 15, 17]), ([18, 11], [11, 18]), ([19, 11], [11, 19]), ([14, 20, 11], [11, 14, 20]), ([12, 13, 21, 11], [11, 12, 13, 21]), ([11], [11]), ([11], [11]), ([24, 11], [11, 24]), ([23, 25, 11], [11, 23, 25]), ([26, 11], [11, 26]), ([22, 27, 11], [11, 22, 27]), ([11, 28], [11, 28])])
def quoinref26_match.B11 : List Nat := [0, 0, 0, 4, 14, 30, 62, 127, 0, 256, 1023, 2047, 4095, 4095, 4095, 4095, 4095, 69631, 233471, 495615, 1019903, 2084863, 4194303, 4095, 4095, 16781311, 58724351, 125833215, 268435455, 536870911]
theorem quoinref26_match.tab11 : rtab .any (opsOf Try.f31 11) = quoinref26_match.T11 := by kernel_rfl
theorem quoinref26_match.bits11 : waitsOk quoinref26_match.T11.2 quoinref26_match.B11 = true := by kernel_rfl
def quoinref26_match.T12 : Bool × List (List Nat × List Nat) := (true, [([], []), ([], []), ([1], [1]), ([2], [2]), ([], []), ([], []), ([], []), ([6], [6]), ([5, 7], [5, 7]), ([8], [8]), ([9], [9]), ([4, 10], [4, 10]), ([0, 3, 11], [0, 3, 11]), ([12, 12, 0, 1, 2, 3, 4, 5, 6, 7, 8, 9, 10, 11, 12], [12])])
def quoinref26_match.B12 : List Nat := [0, 0, 2, 6, 0, 0, 0, 64, 224, 480, 992, 2032, 4095, 8191]
theorem quoinref26_match.tab12 : rtab .any (opsOf Try.f31 12) = quoinref26_match.T12 := by kernel_rfl
theorem quoinref26_match.bits12 : waitsOk quoinref26_match.T12.2 quoinref26_match.B12 = true := by kernel_rfl
def quoinref26_match.T16 : Bool × List (List Nat × List Nat) := (true, [([], []), ([], []), ([], []), ([1, 2], [1, 2]), ([3], [3]), ([4], [4]), ([0, 5], [0, 5]), ([], []), ([7], [7]), ([6, 8], [6, 8]), ([9], [9]), ([10], [10]), ([10], [10]), ([10], [10]), ([10], [10]), ([10], [10]), ([14, 15, 10], [10, 14, 15]), ([16, 10], [10, 16]), ([17, 10], [10, 17]), ([13, 18, 10], [10, 13, 18]), ([11, 12, 19, 10], [10, 11, 12, 19]), ([10], [10]), ([10], [10]), ([21, 22, 10], [10, 21, 22]), ([23, 10], [10, 23]), ([20, 24, 10], [10, 20, 24]), ([10, 25], [10, 25])])
def quoinref26_match.B16 : List Nat := [0, 0, 0, 6, 14, 30, 63, 0, 128, 511, 1023, 2047, 2047, 2047, 2047, 2047, 51199, 116735, 247807, 518143, 1048575, 2047, 2047, 6293503, 14682111, 33554431, 67108863]
theorem quoinref26_match.tab16 : rtab .any (opsOf Try.f31 16) = quoinref26_match.T16 := by kernel_rfl
theorem quoinref26_match.bits16 : waitsOk quoinref26_match.T16.2 quoinref26_match.B16 = true := by kernel_rfl
def quoinref26_match.T17 : Bool × List (List Nat × List Nat) := (true, [([], []), ([], []), ([1], [1]), ([2], [2]), ([3], [3]), ([], []), ([4, 5], [4, 5]), ([], []), ([], []), ([], []), ([8, 9], [8, 9]), ([10], [10]), ([11], [11]), ([7, 12], [7, 12]), ([0, 6, 13], [0, 6, 13]), ([14, 14, 0, 1, 2, 3, 4, 5, 6, 7, 8, 9, 10, 11, 12, 13, 14], [14])])
def quoinref26_match.B17 : List Nat := [0, 0, 2, 6, 14, 0, 62, 0, 0, 0, 768, 1792, 3840, 8064, 16383, 32767]
theorem quoinref26_match.tab17 : rtab .any (opsOf Try.f31 17) = quoinref26_match.T17 := by kernel_rfl
theorem quoinref26_match.bits17 : waitsOk quoinref26_match.T17.2 quoinref26_match.B17 = true := by kernel_rfl
set_option maxHeartbeats 8000000 in
set_option maxRecDepth 100000 in
theorem quoinref26_match.calls {k : Nat} {a0 : ByteArray} {a1 : Int} {r1 : Int} {r2 : Int} {w : World} (h : quoinref26_match.f k a0 a1 = some (r1, r2)) :
  Calls Try.prog 31 #[.string a0, .int .i64 a1] w fun e w' => e = .returned (.agg #[.int .i64 r1, .int .i64 r2]) ∧ Below w.heap.size w w' := by
 have hu55 := Try.underlying55
 have HB := Aside0.mk (Below.refl w.heap.size w)
 have H : ((quoinref26_operators.f).bind fun t352 => ((quoinref26_keywords.f).bind fun t355 => ((quoinref26_blanks.f k a0 a1).bind fun t358 => ((quoinref26_at.f a0 a1).bind fun t360 => (if t360 = 10 then ((quoinref26_best_with.f 0 t358 (wrap64 ((wrap64 (8 + (wrap64 ((t352.length : Int) / 2)))) + (t355.length : Int))) (wrap64 (a1 + 1))).bind fun bt361 => (quoinref26_match.j0 k a0 a1 t352 t355 (wrap64 ((wrap64 (8 + (wrap64 ((t352.length : Int) / 2)))) + (t355.length : Int))) bt361.1 bt361.2)) else (quoinref26_match.j0 k a0 a1 t352 t355 (wrap64 ((wrap64 (8 + (wrap64 ((t352.length : Int) / 2)))) + (t355.length : Int))) 0 t358)))))) = some (r1, r2) := h
 clear h
 replace H := bS H
 obtain ⟨t352, A3, H⟩ := H
 try dsimp only at H
 replace H := bS H
 obtain ⟨t355, A4, H⟩ := H
 try dsimp only at H
 replace H := bS H
 obtain ⟨t358, A5, H⟩ := H
 try dsimp only at H
 replace H := bS H
 obtain ⟨t360, A6, H⟩ := H
 try dsimp only at H
 have HC7 := Aside0.mk H
 clear H
 go_enter Try.func31, Try.ntmps31
 go_upto_if 27 with (first | ((with_reducible refine gate_dst (N := 4) rfl ?_); (try (refine gate_guard Z67 ?_; dsimp only)); refine box_event ?hg (N := 4) ?hd (cs := #[.int .i64 0, .int .i64 0]) (t := 55) ?hr ?_; (case hd => rfl); (case hg => rfl); (case hr => first | (go_simp; done) | (go_simp; rfl)); intro gb351 hg w8 hbox hb; have BK351 := Aside0.mk (hbox); have GW351 := gE hg zB; have GE351 := gE hg zB; replace HB := Aside0.mk (below_step zB hb); clear hb hbox hg) | (refine gQ (some 11) Try.func40 (quoinref26_operators.calls A3.out) (h := ?_); rintro v353 w9 ⟨ho0, hb⟩; have HO354 := Aside0.mk (Kd.R_lower ho0 (below_size zB)); replace BK351 := Aside0.mk (blk_below (g := gb351) (o := .cells #[.int .i64 0, .int .i64 0] 55 (0, 0)) (bK BK351) hb); replace HB := Aside0.mk (below_step zB hb); (try clear hb); (try clear hb2); (try clear hk); (try clear hi); (try clear ho0)) | (refine gQ (some 12) Try.func41 (quoinref26_keywords.calls A4.out) (h := ?_); rintro v356 w10 ⟨ho0, hb⟩; have HO357 := Aside0.mk (Kd.R_lower (Kd.R_new' ho0 (Kd.R_lt (kK HO354))) (below_size zB)); replace HO354 := Aside0.mk (Kd.R_elder' (kK HO354) (Kd.R_base ho0) hb); replace BK351 := Aside0.mk (blk_below (g := gb351) (o := .cells #[.int .i64 0, .int .i64 0] 55 (0, 0)) (bK BK351) hb); replace HB := Aside0.mk (below_step zB hb); (try clear hb); (try clear hb2); (try clear hk); (try clear hi); (try clear ho0); obtain ⟨Ao11, co11, eo11⟩ := Kd.R_slice HO354.out; subst eo11; obtain ⟨Ao12, co12, eo12⟩ := Kd.R_slice HO357.out; subst eo12) | (refine gR (some 22) Try.func49 (quoinref26_blanks.calls A5.out) (h := ?_); rintro _ ⟨nd, rfl⟩; (try (rw [drewN_self w10]; generalize hq_ : World.drewN w10 _ = w10; have n0_ : Aside0 (Kd.R Kd.string 9 w10 w.heap.size (fun k_ => some k_ ≠ (.slice Ao12 t355.length co12 : Value).ownBlock) (.slice Ao11 t352.length co11) t352) := ⟨by rw [← hq_]; exact (by (with_reducible repeat (first | apply Kd.R_alloc | apply Kd.R_drewN | apply Kd.R_drew)); exact Kd.R_mono HO354.out (fun _ hk => hk.2))⟩; have n1_ : Aside0 (Kd.R Kd.string 9 w10 w.heap.size (fun k_ => some k_ ≠ (.slice Ao11 t352.length co11 : Value).ownBlock) (.slice Ao12 t355.length co12) t355) := ⟨by rw [← hq_]; exact (by (with_reducible repeat (first | apply Kd.R_alloc | apply Kd.R_drewN | apply Kd.R_drew)); exact Kd.R_mono HO357.out (fun _ hk => hk.2))⟩; have n2_ : Aside0 (w10.heap[gb351]? = some (.cells #[.int .i64 0, .int .i64 0] 55 (0, 0))) := ⟨by rw [← hq_]; exact (bK BK351)⟩; have n3_ : Aside0 (Below w.heap.size w w10) := ⟨by rw [← hq_]; exact zB⟩; clear HO354 HO357 BK351 HB hq_; have HO354 := n0_; have HO357 := n1_; have BK351 := n2_; have HB := n3_; clear n0_ n1_ n2_ n3_))) | ((with_reducible refine gate_dst (N := 8) rfl ?_); (try (refine gate_guard Z67 ?_; dsimp only)); refine box_event ?hg (N := 8) ?hd (cs := #[.int .i64 0, .int .i64 0]) (t := 55) ?hr ?_; (case hd => rfl); (case hg => rfl); (case hr => first | (go_simp; done) | (go_simp; rfl)); intro gb359 hg w13 hbox hb; have n0_ := Aside0.mk (Kd.R_below (kK HO354) hb); have n1_ := Aside0.mk (Kd.R_below (kK HO357) hb); have n2_ := Aside0.mk (blk_below (g := gb351) (o := .cells #[.int .i64 0, .int .i64 0] 55 (0, 0)) (bK BK351) hb); have n3_ := Aside0.mk (below_step zB hb); have n4_ := Aside0.mk (hbox); have n5_ := gE hg zB; have n6_ := gE hg zB; have n7_ := Aside0.mk ((by rw [hg]; exact Nat.ne_of_lt (blk_lt (g := gb351) (o := .cells #[.int .i64 0, .int .i64 0] 55 (0, 0)) (bK BK351)) : gb351 ≠ gb359)); have n8_ := Aside0.mk ((by rw [hg]; exact Nat.ne_of_gt (blk_lt (g := gb351) (o := .cells #[.int .i64 0, .int .i64 0] 55 (0, 0)) (bK BK351)) : gb359 ≠ gb351)); clear HO354; clear HO357; clear BK351; clear HB; have HO354 := n0_; have HO357 := n1_; have BK351 := n2_; have HB := n3_; have BK359 := n4_; have GW359 := n5_; have GE359 := n6_; have NB351_359 := n7_; have NB359_351 := n8_; clear n0_ n1_ n2_ n3_ n4_ n5_ n6_ n7_ n8_; clear hb hbox hg; have hnb14 := NB359_351.out; have hnc14 := NB351_359.out; have hcz15_0 := bC BK359 0 (.int .i64 0); have hcz15_1 := bC BK359 1 (.int .i64 0); have hfz15_0 := blk_frozen BK359.out 0; have hfz15_1 := blk_frozen BK359.out 1) | (refine gR (some 26) Try.func50 (quoinref26_at.calls A6.out) (h := ?_); rintro _ ⟨nd, rfl⟩))
 (try simp only [Act.put, List.setIfInBounds_toArray, List.set_cons_zero, List.set_cons_succ])
 go_cut [] (fun wc => ∃ (kq : Nat) (x360000_6 : Int) (x360001_6 : Int), Aside0 (quoinref26_match.j0 kq a0 a1 t352 t355 (wrap64 ((wrap64 (8 + (wrap64 ((t352.length : Int) / 2)))) + (t355.length : Int))) x360000_6 x360001_6 = some (r1, r2)) ∧ Aside0 (kq ≤ k) ∧ Aside0 (Kd.R Kd.string 9 wc w.heap.size (fun k_ => some k_ ≠ ((.slice Ao12 t355.length co12) : Value).ownBlock) (.slice Ao11 t352.length co11) t352) ∧ Aside0 (Kd.R Kd.string 9 wc w.heap.size (fun k_ => some k_ ≠ ((.slice Ao11 t352.length co11) : Value).ownBlock) (.slice Ao12 t355.length co12) t355) ∧ Aside0 (wc.heap[gb351]? = some (.cells #[.int .i64 0, .int .i64 0] 55 (0, 0))) ∧ Aside0 (wc.heap[gb359]? = some (.cells #[.int .i64 x360000_6, .int .i64 x360001_6] 55 (0, 0))) ∧ Aside0 (Below w.heap.size w wc))
 case first =>
  have H := HC7.out
  clear HC7
  by_cases c16 : t360 = 10
  ·rw [if_pos c16] at H
   have c16b0 := e1 c16
   have c16b1 := e2 c16
   clear c16
   (first | rw [c16b0] | (simp only [i64_w, i32_w]; rw [c16b0]) | skip)
   replace H := bS H
   obtain ⟨⟨t361, t362⟩, A17, H⟩ := H
   try dsimp only at H
   have H' := Aside0.mk H
   clear H
   have hnb18 := NB359_351.out
   have hnc18 := NB351_359.out
   have hcz19_0 := bC BK359 0 (.int .i64 0)
   have hcz19_1 := bC BK359 1 (.int .i64 0)
   have hfz19_0 := blk_frozen BK359.out 0
   have hfz19_1 := blk_frozen BK359.out 1
   go_wp2_with (first | (refine gR (some 32) Try.func51 (quoinref26_best_with.calls A17.out) (h := ?_); rintro w20 hb; have n0_ := Aside0.mk (Kd.R_below (by (with_reducible repeat (first | apply Kd.R_alloc | apply Kd.R_drewN | apply Kd.R_drew)); exact (Kd.R_mono (Kd.R_far (p := ⟨gb359, 1, none⟩) (Kd.R_far (p := ⟨gb359, 0, none⟩) (Kd.R_types HO354.out BK359.out Z43) (fun _ hk => hk.2) (.int .i64 0)) (fun _ hk => hk.2) (.int .i64 t358)) (fun _ h_ => h_.1))) hb); have n1_ := Aside0.mk (Kd.R_below (by (with_reducible repeat (first | apply Kd.R_alloc | apply Kd.R_drewN | apply Kd.R_drew)); exact (Kd.R_mono (Kd.R_far (p := ⟨gb359, 1, none⟩) (Kd.R_far (p := ⟨gb359, 0, none⟩) (Kd.R_types HO357.out BK359.out Z43) (fun _ hk => hk.2) (.int .i64 0)) (fun _ hk => hk.2) (.int .i64 t358)) (fun _ h_ => h_.1))) hb); have n2_ := Aside0.mk (blk_below (g := gb351) (o := .cells #[.int .i64 0, .int .i64 0] 55 (0, 0)) Z6 hb); have n3_ := Aside0.mk (blk_below (g := gb359) (o := .cells #[.int .i64 0, .int .i64 t358] 55 (0, 0)) (by (with_reducible repeat (first | refine blk_drewN ?_ _ | refine blk_drew ?_ | refine blk_alloc ?_ _)); refine blk_put (cs := #[.int .i64 0, .int .i64 0]) ?_ 1 _ rfl; (with_reducible repeat (first | refine blk_drewN ?_ _ | refine blk_drew ?_ | refine blk_alloc ?_ _)); refine blk_put (cs := #[.int .i64 0, .int .i64 0]) ?_ 0 _ rfl; (with_reducible repeat (first | refine blk_drewN ?_ _ | refine blk_drew ?_ | refine blk_alloc ?_ _)); exact BK359.out) hb); have n4_ := Aside0.mk (below_step zB hb); clear HO354; clear HO357; clear BK351; clear BK359; clear HB; have HO354 := n0_; have HO357 := n1_; have BK351 := n2_; have BK359 := n3_; have HB := n4_; clear n0_ n1_ n2_ n3_ n4_; (try clear hb); (try clear hb2); (try clear hk); (try clear hi); have hcz21_0 := bC BK359 0 (.int .i64 0); have hcz21_1 := bC BK359 1 (.int .i64 t358); have hfz21_0 := blk_frozen BK359.out 0; have hfz21_1 := blk_frozen BK359.out 1))
   go_meet
   case rel => exact ⟨_, (t361), (t362), H', ⟨Z26⟩, ⟨by (with_reducible repeat (first | apply Kd.R_alloc | apply Kd.R_drewN | apply Kd.R_drew)); exact Kd.R_mono (Kd.R_far (p := ⟨gb359, 1, none⟩) (Kd.R_far (p := ⟨gb359, 0, none⟩) (Kd.R_types HO354.out BK359.out Z43) (fun _ hk => hk.2) (.int .i64 t361)) (fun _ hk => hk.2) (.int .i64 t362)) Z69⟩, ⟨by (with_reducible repeat (first | apply Kd.R_alloc | apply Kd.R_drewN | apply Kd.R_drew)); exact Kd.R_mono (Kd.R_far (p := ⟨gb359, 1, none⟩) (Kd.R_far (p := ⟨gb359, 0, none⟩) (Kd.R_types HO357.out BK359.out Z43) (fun _ hk => hk.2) (.int .i64 t361)) (fun _ hk => hk.2) (.int .i64 t362)) Z69⟩, ⟨Z6⟩, ⟨by (with_reducible repeat (first | refine blk_drewN ?_ _ | refine blk_drew ?_ | refine blk_alloc ?_ _)); refine blk_put (cs := #[.int .i64 t361, .int .i64 t358]) ?_ 1 _ rfl; (with_reducible repeat (first | refine blk_drewN ?_ _ | refine blk_drew ?_ | refine blk_alloc ?_ _)); refine blk_put (cs := #[.int .i64 0, .int .i64 t358]) ?_ 0 _ rfl; (with_reducible repeat (first | refine blk_drewN ?_ _ | refine blk_drew ?_ | refine blk_alloc ?_ _)); exact BK359.out⟩, ⟨Z0⟩⟩
  ·rw [if_neg c16] at H
   have c16b0 := e3 c16
   have c16b1 := e4 c16
   (first | rw [c16b0] | (simp only [i64_w, i32_w]; rw [c16b0]) | skip)
   have H' := Aside0.mk H
   clear H
   go_wp2
   go_meet
   case rel => exact ⟨_, (0), (t358), H', ⟨Z26⟩, ⟨by (with_reducible repeat (first | apply Kd.R_alloc | apply Kd.R_drewN | apply Kd.R_drew)); exact Kd.R_mono (Kd.R_far (p := ⟨gb359, 1, none⟩) (Kd.R_far (p := ⟨gb359, 0, none⟩) (Kd.R_types HO354.out BK359.out Z43) (fun _ hk => hk.2) (.int .i64 0)) (fun _ hk => hk.2) (.int .i64 t358)) Z69⟩, ⟨by (with_reducible repeat (first | apply Kd.R_alloc | apply Kd.R_drewN | apply Kd.R_drew)); exact Kd.R_mono (Kd.R_far (p := ⟨gb359, 1, none⟩) (Kd.R_far (p := ⟨gb359, 0, none⟩) (Kd.R_types HO357.out BK359.out Z43) (fun _ hk => hk.2) (.int .i64 0)) (fun _ hk => hk.2) (.int .i64 t358)) Z69⟩, ⟨Z6⟩, ⟨by (with_reducible repeat (first | refine blk_drewN ?_ _ | refine blk_drew ?_ | refine blk_alloc ?_ _)); refine blk_put (cs := #[.int .i64 0, .int .i64 0]) ?_ 1 _ rfl; (with_reducible repeat (first | refine blk_drewN ?_ _ | refine blk_drew ?_ | refine blk_alloc ?_ _)); refine blk_put (cs := #[.int .i64 0, .int .i64 0]) ?_ 0 _ rfl; (with_reducible repeat (first | refine blk_drewN ?_ _ | refine blk_drew ?_ | refine blk_alloc ?_ _)); exact BK359.out⟩, ⟨Z0⟩⟩
 case rest =>
  clear HC7
  try clear c1
  try clear p2
  try clear c3
  try clear c4
  try clear c5
  try clear p6
  try clear c14
  try clear c16
  try clear c16b0
  try clear c16b1
  try clear c18
  try clear hcz15_0
  try clear hcz15_1
  try clear hcz19_0
  try clear hcz19_1
  try clear hcz21_0
  try clear hcz21_1
  try clear hfz15_0
  try clear hfz15_1
  try clear hfz19_0
  try clear hfz19_1
  try clear hfz21_0
  try clear hfz21_1
  obtain ⟨kq, x360000_6, x360001_6, HA, HJ6, HO_5, HO_6, BK351, BK359, HB⟩ := hcut
  cases kq with
  | zero => exact absurd HA.out (by simp [quoinref26_match.j0])
  | succ kj6 =>
   have H := HA.out
   clear HA
   simp only [quoinref26_match.j0] at H
   replace H := bS H
   obtain ⟨t363, A22, H⟩ := H
   try dsimp only at H
   replace H := bS H
   obtain ⟨⟨t364, t365⟩, A23, H⟩ := H
   try dsimp only at H
   replace H := bS H
   obtain ⟨t366, A24, H⟩ := H
   try dsimp only at H
   replace H := bS H
   obtain ⟨⟨t367, t368⟩, A25, H⟩ := H
   try dsimp only at H
   have H' := Aside0.mk H
   clear H
   try go_wp2
   replace HO_5 := Aside0.mk (Kd.R_drew HO_5.out)
   replace HO_6 := Aside0.mk (Kd.R_drew HO_6.out)
   replace BK351 := Aside0.mk (blk_drew BK351.out)
   replace BK359 := Aside0.mk (blk_drew BK359.out)
   replace HB := Aside0.mk (below_drew1 HB.out)
   refine start_ (n := 8) (S := fun w' => w'.cell? ⟨gb359, 0, none⟩ = some (.int .i64 x360000_6) ∧ w'.cell? ⟨gb359, 1, none⟩ = some (.int .i64 x360001_6)) (ds := [7]) #[false, false, false, false, false, false, false, false] Z5 rfl rfl ⟨(blk_cell BK359.out 0).trans rfl, (blk_cell BK359.out 1).trans rfl⟩ (fun hHeld => ?_); refine with_tabW quoinref26_match.tab6 quoinref26_match.bits6 (fun HT_ HW_ => ?_)
   generalize wc.drew = w26 at HO_5 HO_6 BK351 BK359 HB hHeld ⊢
   refine pU 1 34 (hc := (any_of HT_.out Z5)) (h := ?_)
   refine pU 2 35 (hc := (any_of HT_.out Z5)) (h := ?_)
   refine pU 3 36 (hc := (any_of HT_.out Z5)) (h := ?_)
   refine pU 4 37 (hc := (any_of HT_.out Z5)) (h := ?_)
   refine take_ (i := 0) (N := some 33) (v := ?_) (a' := ?_) #[true, true, true, true, true, false, false, false] rfl rfl (take_ofW HT_.out HW_.out Z5) (fun _ _ _ h => h) (Or.inl ⟨Z67, ?_⟩) hHeld ?_ ?_
   rotate_left
   ·rintro w' ⟨s0, s1⟩
    go_simp
    with_reducible rfl
   rotate_left
   ·simp only [Act.put, List.setIfInBounds_toArray, List.set_cons_zero, List.set_cons_succ, i64_w, i32_w]
    rfl
   refine oN 5 (some 38) (hc := (one_of HT_.out Z5)) (h := fun K hK => ?_)
   refine gS Try.func52 (quoinref26_remark.calls A22.out) (h := ?_)
   rintro w27 hb
   replace HO_5 := Aside0.mk (Kd.R_below (kK HO_5) hb)
   replace HO_6 := Aside0.mk (Kd.R_below (kK HO_6) hb)
   replace BK351 := Aside0.mk (blk_below (g := gb351) (o := .cells #[.int .i64 0, .int .i64 0] 55 (0, 0)) (bK BK351) hb)
   replace BK359 := Aside0.mk (blk_below (g := gb359) (o := .cells #[.int .i64 x360000_6, .int .i64 x360001_6] 55 (0, 0)) (bK BK359) hb)
   replace HB := Aside0.mk (below_step zB hb)
   (try clear hb)
   (try clear hb2)
   (try clear hk)
   (try clear hi)
   refine hK.out _ _ ⟨(blk_cell BK359.out 0).trans rfl, (blk_cell BK359.out 1).trans rfl⟩ (fun hHeld => ?_)
   clear hK K
   refine nO 38 (h := ?_)
   refine oN 6 (some 39) (hc := (one_of HT_.out Z5)) (h := fun K hK => ?_)
   refine gS Try.func51 (quoinref26_best_with.calls A23.out) (h := ?_)
   rintro w28 hb
   replace HO_5 := Aside0.mk (Kd.R_below (kK HO_5) hb)
   replace HO_6 := Aside0.mk (Kd.R_below (kK HO_6) hb)
   replace BK351 := Aside0.mk (blk_below (g := gb351) (o := .cells #[.int .i64 0, .int .i64 0] 55 (0, 0)) (bK BK351) hb)
   replace BK359 := Aside0.mk (blk_below (g := gb359) (o := .cells #[.int .i64 x360000_6, .int .i64 x360001_6] 55 (0, 0)) (bK BK359) hb)
   replace HB := Aside0.mk (below_step zB hb)
   (try clear hb)
   (try clear hb2)
   (try clear hk)
   (try clear hi)
   refine hK.out _ _ ⟨(blk_cell BK359.out 0).trans rfl, (blk_cell BK359.out 1).trans rfl⟩ (fun hHeld => ?_)
   clear hK K
   refine nO 39 (h := ?_)
   refine last_ (i := 7) (N := none) #[true, true, true, true, true, true, true, true] rfl rfl (one_of HT_.out Z5) Z43 (fun K hK => ?_)
   have hs29 := bC BK359 0 (.int .i64 x360000_6)
   have hfs29 := blk_frozen BK359.out 0
   have hns29_0 := NB351_359.out
   have hms29_0 := NB359_351.out
   have hs30 := bC BK359 1 (.int .i64 x360001_6)
   have hfs30 := blk_frozen BK359.out 1
   have hns30_0 := NB351_359.out
   have hms30_0 := NB359_351.out
   refine skip_ (w1 := ?_) Z67 rfl ?_ ?_
   rotate_left
   ·go_simp
    rfl
   refine hK.out _ _ ?_
   clear hK K
   refine done_ (done_of HT_.out Z5) ?_
   try go_wp2
   have n0_ : Aside0 (Kd.R Kd.string 9 ((w28.setCell ⟨gb359, 0, none⟩ (.int .i64 t364)).setCell ⟨gb359, 1, none⟩ (.int .i64 t365)) w.heap.size (fun k_ => some k_ ≠ (.slice Ao12 t355.length co12 : Value).ownBlock) (.slice Ao11 t352.length co11) t352) := ⟨by (with_reducible repeat (first | apply Kd.R_alloc | apply Kd.R_drewN | apply Kd.R_drew)); exact Kd.R_mono (Kd.R_far (p := ⟨gb359, 1, none⟩) (Kd.R_far (p := ⟨gb359, 0, none⟩) (Kd.R_types HO_5.out BK359.out Z43) (fun _ hk => hk.2) (.int .i64 t364)) (fun _ hk => hk.2) (.int .i64 t365)) (fun _ hk => hk.1)⟩
   have n1_ : Aside0 (Kd.R Kd.string 9 ((w28.setCell ⟨gb359, 0, none⟩ (.int .i64 t364)).setCell ⟨gb359, 1, none⟩ (.int .i64 t365)) w.heap.size (fun k_ => some k_ ≠ (.slice Ao11 t352.length co11 : Value).ownBlock) (.slice Ao12 t355.length co12) t355) := ⟨by (with_reducible repeat (first | apply Kd.R_alloc | apply Kd.R_drewN | apply Kd.R_drew)); exact Kd.R_mono (Kd.R_far (p := ⟨gb359, 1, none⟩) (Kd.R_far (p := ⟨gb359, 0, none⟩) (Kd.R_types HO_6.out BK359.out Z43) (fun _ hk => hk.2) (.int .i64 t364)) (fun _ hk => hk.2) (.int .i64 t365)) (fun _ hk => hk.1)⟩
   have n2_ : Aside0 (((w28.setCell ⟨gb359, 0, none⟩ (.int .i64 t364)).setCell ⟨gb359, 1, none⟩ (.int .i64 t365)).heap[gb351]? = some (.cells #[.int .i64 0, .int .i64 0] 55 (0, 0))) := ⟨Z6⟩
   have n3_ : Aside0 (((w28.setCell ⟨gb359, 0, none⟩ (.int .i64 t364)).setCell ⟨gb359, 1, none⟩ (.int .i64 t365)).heap[gb359]? = some (.cells #[.int .i64 t364, .int .i64 t365] 55 (0, 0))) := ⟨by (with_reducible repeat (first | refine blk_drewN ?_ _ | refine blk_drew ?_ | refine blk_alloc ?_ _)); refine blk_put (cs := #[.int .i64 t364, .int .i64 x360001_6]) ?_ 1 _ rfl; (with_reducible repeat (first | refine blk_drewN ?_ _ | refine blk_drew ?_ | refine blk_alloc ?_ _)); refine blk_put (cs := #[.int .i64 x360000_6, .int .i64 x360001_6]) ?_ 0 _ rfl; (with_reducible repeat (first | refine blk_drewN ?_ _ | refine blk_drew ?_ | refine blk_alloc ?_ _)); exact BK359.out⟩
   have n4_ : Aside0 (Below w.heap.size w ((w28.setCell ⟨gb359, 0, none⟩ (.int .i64 t364)).setCell ⟨gb359, 1, none⟩ (.int .i64 t365))) := ⟨Z0⟩
   (try clear HO_5)
   (try clear HO_6)
   (try clear BK351)
   (try clear BK359)
   (try clear HB)
   generalize ((w28.setCell ⟨gb359, 0, none⟩ (.int .i64 t364)).setCell ⟨gb359, 1, none⟩ (.int .i64 t365)) = w31 at n0_ n1_ n2_ n3_ n4_ ⊢
   have HO_5 := n0_
   have HO_6 := n1_
   have BK351 := n2_
   have BK359 := n3_
   have HB := n4_
   clear n0_ n1_ n2_ n3_ n4_
   replace HO_5 := Aside0.mk (Kd.R_drew HO_5.out)
   replace HO_6 := Aside0.mk (Kd.R_drew HO_6.out)
   replace BK351 := Aside0.mk (blk_drew BK351.out)
   replace BK359 := Aside0.mk (blk_drew BK359.out)
   replace HB := Aside0.mk (below_drew1 HB.out)
   refine start_ (n := 8) (S := fun w' => w'.cell? ⟨gb359, 0, none⟩ = some (.int .i64 t364) ∧ w'.cell? ⟨gb359, 1, none⟩ = some (.int .i64 t365)) (ds := [7]) #[false, false, false, false, false, false, false, false] Z5 rfl rfl ⟨(blk_cell BK359.out 0).trans rfl, (blk_cell BK359.out 1).trans rfl⟩ (fun hHeld => ?_); refine with_tabW quoinref26_match.tab7 quoinref26_match.bits7 (fun HT_ HW_ => ?_)
   generalize w31.drew = w32 at HO_5 HO_6 BK351 BK359 HB hHeld ⊢
   refine pU 1 41 (hc := (any_of HT_.out Z5)) (h := ?_)
   refine pU 2 42 (hc := (any_of HT_.out Z5)) (h := ?_)
   refine pU 3 43 (hc := (any_of HT_.out Z5)) (h := ?_)
   refine pU 4 44 (hc := (any_of HT_.out Z5)) (h := ?_)
   refine take_ (i := 0) (N := some 40) (v := ?_) (a' := ?_) #[true, true, true, true, true, false, false, false] rfl rfl (take_ofW HT_.out HW_.out Z5) (fun _ _ _ h => h) (Or.inl ⟨Z67, ?_⟩) hHeld ?_ ?_
   rotate_left
   ·rintro w' ⟨s0, s1⟩
    go_simp
    with_reducible rfl
   rotate_left
   ·simp only [Act.put, List.setIfInBounds_toArray, List.set_cons_zero, List.set_cons_succ, i64_w, i32_w]
    rfl
   refine oN 5 (some 45) (hc := (one_of HT_.out Z5)) (h := fun K hK => ?_)
   refine gS Try.func53 (quoinref26_comment.calls A24.out) (h := ?_)
   rintro w33 hb
   replace HO_5 := Aside0.mk (Kd.R_below (kK HO_5) hb)
   replace HO_6 := Aside0.mk (Kd.R_below (kK HO_6) hb)
   replace BK351 := Aside0.mk (blk_below (g := gb351) (o := .cells #[.int .i64 0, .int .i64 0] 55 (0, 0)) (bK BK351) hb)
   replace BK359 := Aside0.mk (blk_below (g := gb359) (o := .cells #[.int .i64 t364, .int .i64 t365] 55 (0, 0)) (bK BK359) hb)
   replace HB := Aside0.mk (below_step zB hb)
   (try clear hb)
   (try clear hb2)
   (try clear hk)
   (try clear hi)
   refine hK.out _ _ ⟨(blk_cell BK359.out 0).trans rfl, (blk_cell BK359.out 1).trans rfl⟩ (fun hHeld => ?_)
   clear hK K
   refine nO 45 (h := ?_)
   refine oN 6 (some 46) (hc := (one_of HT_.out Z5)) (h := fun K hK => ?_)
   refine gS Try.func51 (quoinref26_best_with.calls A25.out) (h := ?_)
   rintro w34 hb
   replace HO_5 := Aside0.mk (Kd.R_below (kK HO_5) hb)
   replace HO_6 := Aside0.mk (Kd.R_below (kK HO_6) hb)
   replace BK351 := Aside0.mk (blk_below (g := gb351) (o := .cells #[.int .i64 0, .int .i64 0] 55 (0, 0)) (bK BK351) hb)
   replace BK359 := Aside0.mk (blk_below (g := gb359) (o := .cells #[.int .i64 t364, .int .i64 t365] 55 (0, 0)) (bK BK359) hb)
   replace HB := Aside0.mk (below_step zB hb)
   (try clear hb)
   (try clear hb2)
   (try clear hk)
   (try clear hi)
   refine hK.out _ _ ⟨(blk_cell BK359.out 0).trans rfl, (blk_cell BK359.out 1).trans rfl⟩ (fun hHeld => ?_)
   clear hK K
   refine nO 46 (h := ?_)
   refine last_ (i := 7) (N := none) #[true, true, true, true, true, true, true, true] rfl rfl (one_of HT_.out Z5) Z43 (fun K hK => ?_)
   have hs35 := bC BK359 0 (.int .i64 t364)
   have hfs35 := blk_frozen BK359.out 0
   have hns35_0 := NB351_359.out
   have hms35_0 := NB359_351.out
   have hs36 := bC BK359 1 (.int .i64 t365)
   have hfs36 := blk_frozen BK359.out 1
   have hns36_0 := NB351_359.out
   have hms36_0 := NB359_351.out
   refine skip_ (w1 := ?_) Z67 rfl ?_ ?_
   rotate_left
   ·go_simp
    rfl
   refine hK.out _ _ ?_
   clear hK K
   refine done_ (done_of HT_.out Z5) ?_
   try go_wp2
   go_loopg [9] kj6 (fun kq v9 w' => ∃ (x9_2 : Int) (x360000_2 : Int) (x360001_2 : Int), v9 = .int .i64 x9_2 ∧ Aside0 (quoinref26_match.l0 kq a0 a1 t352 t355 x9_2 x360000_2 x360001_2 = some (r1, r2)) ∧ Aside0 (kq ≤ kj6) ∧ Aside0 (Kd.R Kd.string 9 w' w.heap.size (fun k_ => some k_ ≠ ((.slice Ao12 t355.length co12) : Value).ownBlock) (.slice Ao11 t352.length co11) t352) ∧ Aside0 (Kd.R Kd.string 9 w' w.heap.size (fun k_ => some k_ ≠ ((.slice Ao11 t352.length co11) : Value).ownBlock) (.slice Ao12 t355.length co12) t355) ∧ Aside0 (w'.heap[gb351]? = some (.cells #[.int .i64 0, .int .i64 0] 55 (0, 0))) ∧ Aside0 (w'.heap[gb359]? = some (.cells #[.int .i64 x360000_2, .int .i64 x360001_2] 55 (0, 0))) ∧ Aside0 (Below w.heap.size w w'))
   case atStart => exact ⟨(0), (t367), (t368), Z1, H', ⟨Nat.le_refl _⟩, ⟨by (with_reducible repeat (first | apply Kd.R_alloc | apply Kd.R_drewN | apply Kd.R_drew)); exact Kd.R_mono (Kd.R_far (p := ⟨gb359, 1, none⟩) (Kd.R_far (p := ⟨gb359, 0, none⟩) (Kd.R_types HO_5.out BK359.out Z43) (fun _ hk => hk.2) (.int .i64 t367)) (fun _ hk => hk.2) (.int .i64 t368)) (fun _ hk => hk.1)⟩, ⟨by (with_reducible repeat (first | apply Kd.R_alloc | apply Kd.R_drewN | apply Kd.R_drew)); exact Kd.R_mono (Kd.R_far (p := ⟨gb359, 1, none⟩) (Kd.R_far (p := ⟨gb359, 0, none⟩) (Kd.R_types HO_6.out BK359.out Z43) (fun _ hk => hk.2) (.int .i64 t367)) (fun _ hk => hk.2) (.int .i64 t368)) (fun _ hk => hk.1)⟩, ⟨Z6⟩, ⟨by (with_reducible repeat (first | refine blk_drewN ?_ _ | refine blk_drew ?_ | refine blk_alloc ?_ _)); refine blk_put (cs := #[.int .i64 t367, .int .i64 t365]) ?_ 1 _ rfl; (with_reducible repeat (first | refine blk_drewN ?_ _ | refine blk_drew ?_ | refine blk_alloc ?_ _)); refine blk_put (cs := #[.int .i64 t364, .int .i64 t365]) ?_ 0 _ rfl; (with_reducible repeat (first | refine blk_drewN ?_ _ | refine blk_drew ?_ | refine blk_alloc ?_ _)); exact BK359.out⟩, ⟨Z0⟩⟩
   case round =>
    clear H'
    try clear c1
    try clear p2
    try clear c3
    try clear c4
    try clear c5
    try clear p6
    try clear c14
    try clear c16
    try clear c16b0
    try clear c16b1
    try clear c18
    try clear c31
    try clear hcz15_0
    try clear hcz15_1
    try clear hcz19_0
    try clear hcz19_1
    try clear hcz21_0
    try clear hcz21_1
    try clear hfz15_0
    try clear hfz15_1
    try clear hfz19_0
    try clear hfz19_1
    try clear hfz21_0
    try clear hfz21_1
    try clear p2
    try clear p6
    obtain ⟨x9_2, x360000_2, x360001_2, rfl, HA, HK2, HO_5, HO_6, BK351, BK359, HB⟩ := hrel
    cases gk with
    | zero => exact absurd HA.out (by simp [quoinref26_match.l0])
    | succ k2 =>
     have H := HA.out
     clear HA
     simp only [quoinref26_match.l0] at H
     by_cases c37 : x9_2 < (t352.length : Int)
     ·rw [if_pos c37] at H
      have c37b0 := decide_eq_true c37
      clear c37
      obtain ⟨ji38, hji38⟩ : ∃ j_ : Int, (wrap64 (x9_2 + 1)) = j_ := ⟨_, rfl⟩
      replace H : (if 0 ≤ (ji38) then (if (ji38) < (t352.length : Int) then (if (wrap64 (a1 + ((rdOf ByteArray.empty t352 (ji38)).size : Int))) ≤ (a0.size : Int) then (if 0 ≤ a1 then (if a1 ≤ (wrap64 (a1 + ((rdOf ByteArray.empty t352 (ji38)).size : Int))) then (if (a0.extract (a1 : Int).toNat ((wrap64 (a1 + ((rdOf ByteArray.empty t352 (ji38)).size : Int))) : Int).toNat).toList = (rdOf ByteArray.empty t352 (ji38)).toList then ((quoinref26_best_with.f x360000_2 x360001_2 (wrap64 (8 + (wrap64 (Int.tdiv x9_2 2)))) (wrap64 (a1 + ((rdOf ByteArray.empty t352 (ji38)).size : Int)))).bind fun bt373 => (quoinref26_match.l0 k2 a0 a1 t352 t355 (wrap64 (x9_2 + 2)) bt373.1 bt373.2)) else (quoinref26_match.l0 k2 a0 a1 t352 t355 (wrap64 (x9_2 + 2)) x360000_2 x360001_2)) else (none)) else (none)) else (quoinref26_match.l0 k2 a0 a1 t352 t355 (wrap64 (x9_2 + 2)) x360000_2 x360001_2)) else (none)) else (none)) = some (r1, r2) := by first | (rw [hji38] at H; exact H) | (simp only [hji38] at H ⊢; exact H)
      have hji38w : (IntKind.i64.wrap (x9_2 + 1)) = ji38 := (i64_w _).trans hji38
      by_cases c39 : 0 ≤ (ji38)
      ·rw [if_pos c39] at H
       have c39b0 := decide_eq_true c39
       clear c39
       by_cases c40 : (ji38) < (t352.length : Int)
       ·rw [if_pos c40] at H
        have c40b0 := decide_eq_true c40
        clear c40
        by_cases c41 : (wrap64 (a1 + ((rdOf ByteArray.empty t352 (ji38)).size : Int))) ≤ (a0.size : Int)
        ·rw [if_pos c41] at H
         have c41b0 := decide_eq_true c41
         clear c41
         by_cases c42 : 0 ≤ a1
         ·rw [if_pos c42] at H
          have c42b0 := eq_true c42
          have c42b1 := decide_eq_true c42
          clear c42
          by_cases c43 : a1 ≤ (wrap64 (a1 + ((rdOf ByteArray.empty t352 (ji38)).size : Int)))
          ·rw [if_pos c43] at H
           have c43b0 := eq_true c43
           have c43b1 := decide_eq_true c43
           have c44b0 := eq_true (of_decide_eq_true Z3 : (wrap64 (a1 + ((rdOf ByteArray.empty t352 (ji38)).size : Int))) ≤ (a0.size : Int))
           by_cases c45 : (a0.extract (a1 : Int).toNat ((wrap64 (a1 + ((rdOf ByteArray.empty t352 (ji38)).size : Int))) : Int).toNat).toList = (rdOf ByteArray.empty t352 (ji38)).toList
           ·rw [if_pos c45] at H
            have c45b0 := e1 c45
            have c45b1 := e2 c45
            clear c45
            replace H := bS H
            obtain ⟨⟨t373, t374⟩, A46, H⟩ := H
            try dsimp only at H
            have H' := Aside0.mk H
            clear H
            try go_wp2
            replace HO_5 := Aside0.mk (Kd.R_drew HO_5.out)
            replace HO_6 := Aside0.mk (Kd.R_drew HO_6.out)
            replace BK351 := Aside0.mk (blk_drew BK351.out)
            replace BK359 := Aside0.mk (blk_drew BK359.out)
            replace HB := Aside0.mk (below_drew1 HB.out)
            have p369 : 0 ≤ ((ji38) : Int) := of_decide_eq_true Z3
            have q369 : (ji38) < (t352.length : Int) := of_decide_eq_true Z3
            obtain ⟨ad369, e369, hx369_0⟩ := Kd.at_string (Kd.R_reads' HO_5.out).2.2 (ji38) p369 q369
            cases e369
            replace p369 := eq_true p369
            replace q369 := eq_true q369
            have p370 : 0 ≤ ((ji38) : Int) := of_decide_eq_true Z3
            have q370 : (ji38) < (t352.length : Int) := of_decide_eq_true Z3
            obtain ⟨ad370, e370, hx370_0⟩ := Kd.at_string (Kd.R_reads' HO_5.out).2.2 (ji38) p370 q370
            obtain rfl : ad369 = ad370 := (by injection e370)
            replace p370 := eq_true p370
            replace q370 := eq_true q370
            have p371 : 0 ≤ ((ji38) : Int) := of_decide_eq_true Z3
            have q371 : (ji38) < (t352.length : Int) := of_decide_eq_true Z3
            obtain ⟨ad371, e371, hx371_0⟩ := Kd.at_string (Kd.R_reads' HO_5.out).2.2 (ji38) p371 q371
            obtain rfl : ad369 = ad371 := (by injection e371)
            replace p371 := eq_true p371
            replace q371 := eq_true q371
            refine start_ (n := 30) (S := fun w' => w'.cell? (ad369.add ((ji38)).toNat) = some (.string (rdOf ByteArray.empty t352 (ji38))) ∧ w'.cell? (ad369.add ((ji38)).toNat) = some (.string (rdOf ByteArray.empty t352 (ji38))) ∧ w'.cell? (ad369.add ((ji38)).toNat) = some (.string (rdOf ByteArray.empty t352 (ji38)))) (ds := []) #[false, false, false, false, false, false, false, false, false, false, false, false, false, false, false, false, false, false, false, false, false, false, false, false, false, false, false, false, false, false] Z5 rfl rfl ⟨hx369_0, hx370_0, hx371_0⟩ (fun hHeld => ?_); refine with_tabW quoinref26_match.tab11 quoinref26_match.bits11 (fun HT_ HW_ => ?_)
            generalize wr.drew = w47 at HO_5 HO_6 BK351 BK359 HB hx369_0 hx370_0 hx371_0 hHeld ⊢
            refine pU 0 53 (hc := (any_of HT_.out Z5)) (h := ?_)
            refine pU 1 54 (hc := (any_of HT_.out Z5)) (h := ?_)
            refine pU 2 55 (hc := (any_of HT_.out Z5)) (h := ?_)
            refine pU 3 56 (hc := (any_of HT_.out Z5)) (h := ?_)
            refine pU 4 57 (hc := (any_of HT_.out Z5)) (h := ?_)
            refine pU 8 61 (hc := (any_of HT_.out Z5)) (h := ?_)
            refine pU 9 62 (hc := (any_of HT_.out Z5)) (h := ?_)
            refine take_ (i := 5) (N := some 58) (v := ?_) (a' := ?_) #[true, true, true, true, true, true, false, false, true, true, false, false, false, false, false, false, false, false, false, false, false, false, false, false, false, false, false, false, false, false] rfl rfl (take_ofW HT_.out HW_.out Z5) (fun _ _ _ h => h) (Or.inl ⟨Z67, ?_⟩) hHeld ?_ ?_
            rotate_left
            ·rintro w' ⟨s0, s1, s2⟩
             go_simp
             with_reducible rfl
            rotate_left
            ·simp only [Act.put, List.setIfInBounds_toArray, List.set_cons_zero, List.set_cons_succ, i64_w, i32_w]
             rfl
            refine pU 6 59 (hc := (any_of HT_.out Z5)) (h := ?_)
            refine pU 7 60 (hc := (any_of HT_.out Z5)) (h := ?_)
            refine pU 10 63 (hc := (any_of HT_.out Z5)) (h := ?_)
            refine pU 11 64 (hc := (any_of HT_.out Z5)) (h := ?_)
            refine pU 12 65 (hc := (any_of HT_.out Z5)) (h := ?_)
            refine pU 13 66 (hc := (any_of HT_.out Z5)) (h := ?_)
            refine pU 14 67 (hc := (any_of HT_.out Z5)) (h := ?_)
            refine pU 15 68 (hc := (any_of HT_.out Z5)) (h := ?_)
            refine pU 16 69 (hc := (any_of HT_.out Z5)) (h := ?_)
            refine pU 17 70 (hc := (any_of HT_.out Z5)) (h := ?_)
            refine pU 18 71 (hc := (any_of HT_.out Z5)) (h := ?_)
            refine pU 23 76 (hc := (any_of HT_.out Z5)) (h := ?_)
            refine pU 24 77 (hc := (any_of HT_.out Z5)) (h := ?_)
            refine pU 25 78 (hc := (any_of HT_.out Z5)) (h := ?_)
            refine pU 26 79 (hc := (any_of HT_.out Z5)) (h := ?_)
            refine take_ (i := 19) (N := some 72) (v := ?_) (a' := ?_) #[true, true, true, true, true, true, true, true, true, true, true, true, true, true, true, true, true, true, true, true, false, false, false, true, true, true, true, false, false, false] rfl rfl (take_ofW HT_.out HW_.out Z5) (fun _ _ _ h => h) (Or.inl ⟨Z67, ?_⟩) hHeld ?_ ?_
            rotate_left
            ·rintro w' ⟨s0, s1, s2⟩
             go_simp
             with_reducible rfl
            rotate_left
            ·simp only [Act.put, List.setIfInBounds_toArray, List.set_cons_zero, List.set_cons_succ, i64_w, i32_w]
             rfl
            refine pU 20 73 (hc := (any_of HT_.out Z5)) (h := ?_)
            refine pU 21 74 (hc := (any_of HT_.out Z5)) (h := ?_)
            refine pU 22 75 (hc := (any_of HT_.out Z5)) (h := ?_)
            refine take_ (i := 27) (N := some 80) (v := ?_) (a' := ?_) #[true, true, true, true, true, true, true, true, true, true, true, true, true, true, true, true, true, true, true, true, true, true, true, true, true, true, true, true, false, false] rfl rfl (take_ofW HT_.out HW_.out Z5) (fun _ _ _ h => h) (Or.inl ⟨Z67, ?_⟩) hHeld ?_ ?_
            rotate_left
            ·rintro w' ⟨s0, s1, s2⟩
             go_simp
             with_reducible rfl
            rotate_left
            ·simp only [Act.put, List.setIfInBounds_toArray, List.set_cons_zero, List.set_cons_succ, i64_w, i32_w]
             rfl
            refine pU 28 81 (hc := (any_of HT_.out Z5)) (h := ?_)
            refine pU 29 82 (hc := (any_of HT_.out Z5)) (h := ?_)
            refine done_ (done_of HT_.out Z5) ?_
            try go_wp2
            replace HO_5 := Aside0.mk (Kd.R_drew HO_5.out)
            replace HO_6 := Aside0.mk (Kd.R_drew HO_6.out)
            replace BK351 := Aside0.mk (blk_drew BK351.out)
            replace BK359 := Aside0.mk (blk_drew BK359.out)
            replace HB := Aside0.mk (below_drew1 HB.out)
            have p372 : 0 ≤ ((ji38) : Int) := of_decide_eq_true Z3
            have q372 : (ji38) < (t352.length : Int) := of_decide_eq_true Z3
            obtain ⟨ad372, e372, hx372_0⟩ := Kd.at_string (Kd.R_reads' HO_5.out).2.2 (ji38) p372 q372
            obtain rfl : ad369 = ad372 := (by injection e372)
            replace p372 := eq_true p372
            replace q372 := eq_true q372
            refine start_ (n := 14) (S := fun w' => w'.cell? ⟨gb359, 0, none⟩ = some (.int .i64 x360000_2) ∧ w'.cell? ⟨gb359, 1, none⟩ = some (.int .i64 x360001_2) ∧ w'.cell? (ad369.add ((ji38)).toNat) = some (.string (rdOf ByteArray.empty t352 (ji38)))) (ds := [13]) #[false, false, false, false, false, false, false, false, false, false, false, false, false, false] Z5 rfl rfl ⟨(blk_cell BK359.out 0).trans rfl, (blk_cell BK359.out 1).trans rfl, hx372_0⟩ (fun hHeld => ?_); refine with_tabW quoinref26_match.tab12 quoinref26_match.bits12 (fun HT_ HW_ => ?_)
            generalize w47.drew = w48 at HO_5 HO_6 BK351 BK359 HB hx372_0 hHeld ⊢
            refine pU 1 84 (hc := (any_of HT_.out Z5)) (h := ?_)
            refine pU 2 85 (hc := (any_of HT_.out Z5)) (h := ?_)
            refine pU 3 86 (hc := (any_of HT_.out Z5)) (h := ?_)
            refine pU 4 87 (hc := (any_of HT_.out Z5)) (h := ?_)
            refine pU 5 88 (hc := (any_of HT_.out Z5)) (h := ?_)
            refine pU 6 89 (hc := (any_of HT_.out Z5)) (h := ?_)
            refine pU 7 90 (hc := (any_of HT_.out Z5)) (h := ?_)
            refine pU 8 91 (hc := (any_of HT_.out Z5)) (h := ?_)
            refine take_ (i := 0) (N := some 83) (v := ?_) (a' := ?_) #[true, true, true, true, true, true, true, true, true, false, false, false, false, false] rfl rfl (take_ofW HT_.out HW_.out Z5) (fun _ _ _ h => h) (Or.inl ⟨Z67, ?_⟩) hHeld ?_ ?_
            rotate_left
            ·rintro w' ⟨s0, s1, s2⟩
             go_simp
             with_reducible rfl
            rotate_left
            ·simp only [Act.put, List.setIfInBounds_toArray, List.set_cons_zero, List.set_cons_succ, i64_w, i32_w]
             rfl
            refine take_ (i := 9) (N := some 92) (v := ?_) (a' := ?_) #[true, true, true, true, true, true, true, true, true, true, false, false, false, false] rfl rfl (take_ofW HT_.out HW_.out Z5) (fun _ _ _ h => h) (Or.inl ⟨Z67, ?_⟩) hHeld ?_ ?_
            rotate_left
            ·rintro w' ⟨s0, s1, s2⟩
             go_simp
             with_reducible rfl
            rotate_left
            ·simp only [Act.put, List.setIfInBounds_toArray, List.set_cons_zero, List.set_cons_succ, i64_w, i32_w]
             rfl
            refine pU 10 93 (hc := (any_of HT_.out Z5)) (h := ?_)
            refine pU 11 94 (hc := (any_of HT_.out Z5)) (h := ?_)
            refine oN 12 (some 95) (hc := (one_of HT_.out Z5)) (h := fun K hK => ?_)
            refine goes_ Try.func51 Z5 rfl #[.agg #[.int .i64 x360000_2, .int .i64 x360001_2], .int .i64 (wrap64 (8 + (wrap64 (Int.tdiv x9_2 2)))), .int .i64 (wrap64 (a1 + ((rdOf ByteArray.empty t352 (ji38)).size : Int)))] Z67 rfl rfl Z58 ?_
            with_reducible refine (quoinref26_best_with.calls A46.out).mono ?_
            rintro e w49 ⟨rfl, hb⟩
            have HS2_ := (hb.cell (World.block_lt_of_cell? _ _ (hHeld.2.2))).trans (hHeld.2.2)
            refine ⟨_, rfl, ?_⟩
            replace HO_5 := Aside0.mk (Kd.R_below (kK HO_5) hb)
            replace HO_6 := Aside0.mk (Kd.R_below (kK HO_6) hb)
            replace BK351 := Aside0.mk (blk_below (g := gb351) (o := .cells #[.int .i64 0, .int .i64 0] 55 (0, 0)) (bK BK351) hb)
            replace BK359 := Aside0.mk (blk_below (g := gb359) (o := .cells #[.int .i64 x360000_2, .int .i64 x360001_2] 55 (0, 0)) (bK BK359) hb)
            replace HB := Aside0.mk (below_step zB hb)
            (try clear hb)
            (try clear hb2)
            (try clear hk)
            (try clear hi)
            refine hK.out _ _ ⟨(blk_cell BK359.out 0).trans rfl, (blk_cell BK359.out 1).trans rfl, HS2_⟩ (fun hHeld => ?_)
            clear hK K
            refine nO 95 (h := ?_)
            refine last_ (i := 13) (N := none) #[true, true, true, true, true, true, true, true, true, true, true, true, true, true] rfl rfl (one_of HT_.out Z5) Z43 (fun K hK => ?_)
            have hs50 := bC BK359 0 (.int .i64 x360000_2)
            have hfs50 := blk_frozen BK359.out 0
            have hns50_0 := NB351_359.out
            have hms50_0 := NB359_351.out
            have hs51 := bC BK359 1 (.int .i64 x360001_2)
            have hfs51 := blk_frozen BK359.out 1
            have hns51_0 := NB351_359.out
            have hms51_0 := NB359_351.out
            refine skip_ (w1 := ?_) Z67 rfl ?_ ?_
            rotate_left
            ·go_simp
             rfl
            refine hK.out _ _ ?_
            clear hK K
            refine done_ (done_of HT_.out Z5) ?_
            try go_wp2
            go_roundg k2
            case measure => have := HJ6.out; have := HK2.out; omega
            case rel => exact ⟨(wrap64 (x9_2 + 2)), (t373), (t374), Z1, H', ⟨by have := HJ6.out; have := HK2.out; omega⟩, ⟨by (with_reducible repeat (first | apply Kd.R_alloc | apply Kd.R_drewN | apply Kd.R_drew)); exact Kd.R_mono (Kd.R_far (p := ⟨gb359, 1, none⟩) (Kd.R_far (p := ⟨gb359, 0, none⟩) (Kd.R_types HO_5.out BK359.out Z43) (fun _ hk => hk.2) (.int .i64 t373)) (fun _ hk => hk.2) (.int .i64 t374)) (fun _ hk => hk.1)⟩, ⟨by (with_reducible repeat (first | apply Kd.R_alloc | apply Kd.R_drewN | apply Kd.R_drew)); exact Kd.R_mono (Kd.R_far (p := ⟨gb359, 1, none⟩) (Kd.R_far (p := ⟨gb359, 0, none⟩) (Kd.R_types HO_6.out BK359.out Z43) (fun _ hk => hk.2) (.int .i64 t373)) (fun _ hk => hk.2) (.int .i64 t374)) (fun _ hk => hk.1)⟩, ⟨Z6⟩, ⟨by (with_reducible repeat (first | refine blk_drewN ?_ _ | refine blk_drew ?_ | refine blk_alloc ?_ _)); refine blk_put (cs := #[.int .i64 t373, .int .i64 x360001_2]) ?_ 1 _ rfl; (with_reducible repeat (first | refine blk_drewN ?_ _ | refine blk_drew ?_ | refine blk_alloc ?_ _)); refine blk_put (cs := #[.int .i64 x360000_2, .int .i64 x360001_2]) ?_ 0 _ rfl; (with_reducible repeat (first | refine blk_drewN ?_ _ | refine blk_drew ?_ | refine blk_alloc ?_ _)); exact BK359.out⟩, ⟨Z0⟩⟩
           ·rw [if_neg c45] at H
            have c45b0 := e3 c45
            have c45b1 := e4 c45
            have H' := Aside0.mk H
            clear H
            try go_wp2
            replace HO_5 := Aside0.mk (Kd.R_drew HO_5.out)
            replace HO_6 := Aside0.mk (Kd.R_drew HO_6.out)
            replace BK351 := Aside0.mk (blk_drew BK351.out)
            replace BK359 := Aside0.mk (blk_drew BK359.out)
            replace HB := Aside0.mk (below_drew1 HB.out)
            have p369 : 0 ≤ ((ji38) : Int) := of_decide_eq_true Z3
            have q369 : (ji38) < (t352.length : Int) := of_decide_eq_true Z3
            obtain ⟨ad369, e369, hx369_0⟩ := Kd.at_string (Kd.R_reads' HO_5.out).2.2 (ji38) p369 q369
            cases e369
            replace p369 := eq_true p369
            replace q369 := eq_true q369
            have p370 : 0 ≤ ((ji38) : Int) := of_decide_eq_true Z3
            have q370 : (ji38) < (t352.length : Int) := of_decide_eq_true Z3
            obtain ⟨ad370, e370, hx370_0⟩ := Kd.at_string (Kd.R_reads' HO_5.out).2.2 (ji38) p370 q370
            obtain rfl : ad369 = ad370 := (by injection e370)
            replace p370 := eq_true p370
            replace q370 := eq_true q370
            have p371 : 0 ≤ ((ji38) : Int) := of_decide_eq_true Z3
            have q371 : (ji38) < (t352.length : Int) := of_decide_eq_true Z3
            obtain ⟨ad371, e371, hx371_0⟩ := Kd.at_string (Kd.R_reads' HO_5.out).2.2 (ji38) p371 q371
            obtain rfl : ad369 = ad371 := (by injection e371)
            replace p371 := eq_true p371
            replace q371 := eq_true q371
            refine start_ (n := 30) (S := fun w' => w'.cell? (ad369.add ((ji38)).toNat) = some (.string (rdOf ByteArray.empty t352 (ji38))) ∧ w'.cell? (ad369.add ((ji38)).toNat) = some (.string (rdOf ByteArray.empty t352 (ji38))) ∧ w'.cell? (ad369.add ((ji38)).toNat) = some (.string (rdOf ByteArray.empty t352 (ji38)))) (ds := []) #[false, false, false, false, false, false, false, false, false, false, false, false, false, false, false, false, false, false, false, false, false, false, false, false, false, false, false, false, false, false] Z5 rfl rfl ⟨hx369_0, hx370_0, hx371_0⟩ (fun hHeld => ?_); refine with_tabW quoinref26_match.tab11 quoinref26_match.bits11 (fun HT_ HW_ => ?_)
            generalize wr.drew = w52 at HO_5 HO_6 BK351 BK359 HB hx369_0 hx370_0 hx371_0 hHeld ⊢
            refine pU 0 53 (hc := (any_of HT_.out Z5)) (h := ?_)
            refine pU 1 54 (hc := (any_of HT_.out Z5)) (h := ?_)
            refine pU 2 55 (hc := (any_of HT_.out Z5)) (h := ?_)
            refine pU 3 56 (hc := (any_of HT_.out Z5)) (h := ?_)
            refine pU 4 57 (hc := (any_of HT_.out Z5)) (h := ?_)
            refine pU 8 61 (hc := (any_of HT_.out Z5)) (h := ?_)
            refine pU 9 62 (hc := (any_of HT_.out Z5)) (h := ?_)
            refine take_ (i := 5) (N := some 58) (v := ?_) (a' := ?_) #[true, true, true, true, true, true, false, false, true, true, false, false, false, false, false, false, false, false, false, false, false, false, false, false, false, false, false, false, false, false] rfl rfl (take_ofW HT_.out HW_.out Z5) (fun _ _ _ h => h) (Or.inl ⟨Z67, ?_⟩) hHeld ?_ ?_
            rotate_left
            ·rintro w' ⟨s0, s1, s2⟩
             go_simp
             with_reducible rfl
            rotate_left
            ·simp only [Act.put, List.setIfInBounds_toArray, List.set_cons_zero, List.set_cons_succ, i64_w, i32_w]
             rfl
            refine pU 6 59 (hc := (any_of HT_.out Z5)) (h := ?_)
            refine pU 7 60 (hc := (any_of HT_.out Z5)) (h := ?_)
            refine pU 10 63 (hc := (any_of HT_.out Z5)) (h := ?_)
            refine pU 11 64 (hc := (any_of HT_.out Z5)) (h := ?_)
            refine pU 12 65 (hc := (any_of HT_.out Z5)) (h := ?_)
            refine pU 13 66 (hc := (any_of HT_.out Z5)) (h := ?_)
            refine pU 14 67 (hc := (any_of HT_.out Z5)) (h := ?_)
            refine pU 15 68 (hc := (any_of HT_.out Z5)) (h := ?_)
            refine pU 16 69 (hc := (any_of HT_.out Z5)) (h := ?_)
            refine pU 17 70 (hc := (any_of HT_.out Z5)) (h := ?_)
            refine pU 18 71 (hc := (any_of HT_.out Z5)) (h := ?_)
            refine pU 23 76 (hc := (any_of HT_.out Z5)) (h := ?_)
            refine pU 24 77 (hc := (any_of HT_.out Z5)) (h := ?_)
            refine pU 25 78 (hc := (any_of HT_.out Z5)) (h := ?_)
            refine pU 26 79 (hc := (any_of HT_.out Z5)) (h := ?_)
            refine take_ (i := 19) (N := some 72) (v := ?_) (a' := ?_) #[true, true, true, true, true, true, true, true, true, true, true, true, true, true, true, true, true, true, true, true, false, false, false, true, true, true, true, false, false, false] rfl rfl (take_ofW HT_.out HW_.out Z5) (fun _ _ _ h => h) (Or.inl ⟨Z67, ?_⟩) hHeld ?_ ?_
            rotate_left
            ·rintro w' ⟨s0, s1, s2⟩
             go_simp
             with_reducible rfl
            rotate_left
            ·simp only [Act.put, List.setIfInBounds_toArray, List.set_cons_zero, List.set_cons_succ, i64_w, i32_w]
             rfl
            refine pU 20 73 (hc := (any_of HT_.out Z5)) (h := ?_)
            refine pU 21 74 (hc := (any_of HT_.out Z5)) (h := ?_)
            refine pU 22 75 (hc := (any_of HT_.out Z5)) (h := ?_)
            refine take_ (i := 27) (N := some 80) (v := ?_) (a' := ?_) #[true, true, true, true, true, true, true, true, true, true, true, true, true, true, true, true, true, true, true, true, true, true, true, true, true, true, true, true, false, false] rfl rfl (take_ofW HT_.out HW_.out Z5) (fun _ _ _ h => h) (Or.inl ⟨Z67, ?_⟩) hHeld ?_ ?_
            rotate_left
            ·rintro w' ⟨s0, s1, s2⟩
             go_simp
             with_reducible rfl
            rotate_left
            ·simp only [Act.put, List.setIfInBounds_toArray, List.set_cons_zero, List.set_cons_succ, i64_w, i32_w]
             rfl
            refine pU 28 81 (hc := (any_of HT_.out Z5)) (h := ?_)
            refine pU 29 82 (hc := (any_of HT_.out Z5)) (h := ?_)
            refine done_ (done_of HT_.out Z5) ?_
            try go_wp2
            go_roundg k2
            case measure => have := HJ6.out; have := HK2.out; omega
            case rel => exact ⟨(wrap64 (x9_2 + 2)), (x360000_2), (x360001_2), Z1, H', ⟨by have := HJ6.out; have := HK2.out; omega⟩, ⟨Z20⟩, ⟨Z63⟩, ⟨Z60⟩, ⟨Z59⟩, ⟨Z0⟩⟩
          ·rw [if_neg c43] at H
           exact absurd H Z61
         ·rw [if_neg c42] at H
          exact absurd H Z61
        ·rw [if_neg c41] at H
         have c41b0 := decide_eq_false c41
         clear c41
         have H' := Aside0.mk H
         clear H
         try go_wp2
         replace HO_5 := Aside0.mk (Kd.R_drew HO_5.out)
         replace HO_6 := Aside0.mk (Kd.R_drew HO_6.out)
         replace BK351 := Aside0.mk (blk_drew BK351.out)
         replace BK359 := Aside0.mk (blk_drew BK359.out)
         replace HB := Aside0.mk (below_drew1 HB.out)
         have p369 : 0 ≤ ((ji38) : Int) := of_decide_eq_true Z3
         have q369 : (ji38) < (t352.length : Int) := of_decide_eq_true Z3
         obtain ⟨ad369, e369, hx369_0⟩ := Kd.at_string (Kd.R_reads' HO_5.out).2.2 (ji38) p369 q369
         cases e369
         replace p369 := eq_true p369
         replace q369 := eq_true q369
         refine start_ (n := 30) (S := fun w' => w'.cell? (ad369.add ((ji38)).toNat) = some (.string (rdOf ByteArray.empty t352 (ji38)))) (ds := []) #[false, false, false, false, false, false, false, false, false, false, false, false, false, false, false, false, false, false, false, false, false, false, false, false, false, false, false, false, false, false] Z5 rfl rfl (hx369_0) (fun hHeld => ?_); refine with_tabW quoinref26_match.tab11 quoinref26_match.bits11 (fun HT_ HW_ => ?_)
         generalize wr.drew = w53 at HO_5 HO_6 BK351 BK359 HB hx369_0 hHeld ⊢
         refine pU 0 53 (hc := (any_of HT_.out Z5)) (h := ?_)
         refine pU 1 54 (hc := (any_of HT_.out Z5)) (h := ?_)
         refine pU 2 55 (hc := (any_of HT_.out Z5)) (h := ?_)
         refine pU 3 56 (hc := (any_of HT_.out Z5)) (h := ?_)
         refine pU 4 57 (hc := (any_of HT_.out Z5)) (h := ?_)
         refine pU 8 61 (hc := (any_of HT_.out Z5)) (h := ?_)
         refine pU 9 62 (hc := (any_of HT_.out Z5)) (h := ?_)
         refine take_ (i := 5) (N := some 58) (v := ?_) (a' := ?_) #[true, true, true, true, true, true, false, false, true, true, false, false, false, false, false, false, false, false, false, false, false, false, false, false, false, false, false, false, false, false] rfl rfl (take_ofW HT_.out HW_.out Z5) (fun _ _ _ h => h) (Or.inl ⟨Z67, ?_⟩) hHeld ?_ ?_
         rotate_left
         ·intro w' s0
          go_simp
          with_reducible rfl
         rotate_left
         ·simp only [Act.put, List.setIfInBounds_toArray, List.set_cons_zero, List.set_cons_succ, i64_w, i32_w]
          rfl
         refine pU 6 59 (hc := (any_of HT_.out Z5)) (h := ?_)
         refine pU 7 60 (hc := (any_of HT_.out Z5)) (h := ?_)
         refine pU 10 63 (hc := (any_of HT_.out Z5)) (h := ?_)
         refine pU 11 64 (hc := (any_of HT_.out Z5)) (h := ?_)
         refine pV 12 65 (hc := (any_of HT_.out Z5)) (h := ?_)
         refine pV 13 66 (hc := (any_of HT_.out Z5)) (h := ?_)
         refine pV 14 67 (hc := (any_of HT_.out Z5)) (h := ?_)
         refine pV 15 68 (hc := (any_of HT_.out Z5)) (h := ?_)
         refine pV 16 69 (hc := (any_of HT_.out Z5)) (h := ?_)
         refine pV 17 70 (hc := (any_of HT_.out Z5)) (h := ?_)
         refine pV 18 71 (hc := (any_of HT_.out Z5)) (h := ?_)
         refine pV 19 72 (hc := (any_of HT_.out Z5)) (h := ?_)
         refine pV 20 73 (hc := (any_of HT_.out Z5)) (h := ?_)
         refine pV 21 74 (hc := (any_of HT_.out Z5)) (h := ?_)
         refine pV 22 75 (hc := (any_of HT_.out Z5)) (h := ?_)
         refine pV 23 76 (hc := (any_of HT_.out Z5)) (h := ?_)
         refine pV 24 77 (hc := (any_of HT_.out Z5)) (h := ?_)
         refine pV 25 78 (hc := (any_of HT_.out Z5)) (h := ?_)
         refine pV 26 79 (hc := (any_of HT_.out Z5)) (h := ?_)
         refine pV 27 80 (hc := (any_of HT_.out Z5)) (h := ?_)
         refine pV 28 81 (hc := (any_of HT_.out Z5)) (h := ?_)
         refine pU 29 82 (hc := (any_of HT_.out Z5)) (h := ?_)
         refine done_ (done_of HT_.out Z5) ?_
         try go_wp2
         go_roundg k2
         case measure => have := HJ6.out; have := HK2.out; omega
         case rel => exact ⟨(wrap64 (x9_2 + 2)), (x360000_2), (x360001_2), Z1, H', ⟨by have := HJ6.out; have := HK2.out; omega⟩, ⟨Z20⟩, ⟨Z63⟩, ⟨Z60⟩, ⟨Z59⟩, ⟨Z0⟩⟩
       ·rw [if_neg c40] at H
        exact absurd H Z61
      ·rw [if_neg c39] at H
       exact absurd H Z61
     ·rw [if_neg c37] at H
      have c37b0 := decide_eq_false c37
      clear c37
      have H' := Aside0.mk H
      clear H
      go_wp2
      go_loopg [10] k2 (fun kq v10 w' => ∃ (x10_3 : Int) (x360000_3 : Int) (x360001_3 : Int), v10 = .int .i64 x10_3 ∧ Aside0 (quoinref26_match.l1 kq a0 a1 t352 t355 x10_3 x360000_3 x360001_3 = some (r1, r2)) ∧ Aside0 (kq ≤ k2) ∧ Aside0 (Kd.R Kd.string 9 w' w.heap.size (fun k_ => some k_ ≠ ((.slice Ao12 t355.length co12) : Value).ownBlock) (.slice Ao11 t352.length co11) t352) ∧ Aside0 (Kd.R Kd.string 9 w' w.heap.size (fun k_ => some k_ ≠ ((.slice Ao11 t352.length co11) : Value).ownBlock) (.slice Ao12 t355.length co12) t355) ∧ Aside0 (w'.heap[gb351]? = some (.cells #[.int .i64 0, .int .i64 0] 55 (0, 0))) ∧ Aside0 (w'.heap[gb359]? = some (.cells #[.int .i64 x360000_3, .int .i64 x360001_3] 55 (0, 0))) ∧ Aside0 (Below w.heap.size w w'))
      case atStart => exact ⟨(0), (x360000_2), (x360001_2), Z1, H', ⟨Nat.le_refl _⟩, ⟨Z20⟩, ⟨Z63⟩, ⟨Z60⟩, ⟨Z59⟩, ⟨Z0⟩⟩
      case round =>
       clear H'
       try clear p2
       try clear c3
       try clear p3
       try clear q3
       try clear hx3
       try clear c4
       try clear c5
       try clear p6
       try clear p36
       try clear q36
       try clear hx36
       try clear c37
       try clear c37b0
       try clear p37
       try clear q37
       try clear hx37
       try clear c39
       try clear c40
       try clear c41
       try clear c41b0
       try clear c42
       try clear c43
       try clear c45
       try clear c45b0
       try clear c45b1
       try clear c51
       try clear hx369_0
       try clear hx370_0
       try clear hx371_0
       try clear p369
       try clear p370
       try clear p371
       try clear q369
       try clear q370
       try clear q371
       obtain ⟨x10_3, x360000_3, x360001_3, rfl, HA, HK3, HO_5, HO_6, BK351, BK359, HB⟩ := hrel
       cases gk with
       | zero => exact absurd HA.out (by simp [quoinref26_match.l1])
       | succ k3 =>
        have H := HA.out
        clear HA
        simp only [quoinref26_match.l1] at H
        by_cases c54 : x10_3 < (t355.length : Int)
        ·rw [if_pos c54] at H
         have c54b0 := decide_eq_true c54
         clear c54
         by_cases c55 : 0 ≤ x10_3
         ·rw [if_pos c55] at H
          have c55b0 := decide_eq_true c55
          clear c55
          by_cases c56 : (wrap64 (a1 + ((rdOf ByteArray.empty t355 x10_3).size : Int))) ≤ (a0.size : Int)
          ·rw [if_pos c56] at H
           have c56b0 := decide_eq_true c56
           clear c56
           by_cases c57 : 0 ≤ a1
           ·rw [if_pos c57] at H
            have c57b0 := eq_true c57
            have c57b1 := decide_eq_true c57
            clear c57
            by_cases c58 : a1 ≤ (wrap64 (a1 + ((rdOf ByteArray.empty t355 x10_3).size : Int)))
            ·rw [if_pos c58] at H
             have c58b0 := eq_true c58
             have c58b1 := decide_eq_true c58
             have c59b0 := eq_true (of_decide_eq_true Z3 : (wrap64 (a1 + ((rdOf ByteArray.empty t355 x10_3).size : Int))) ≤ (a0.size : Int))
             by_cases c60 : (a0.extract (a1 : Int).toNat ((wrap64 (a1 + ((rdOf ByteArray.empty t355 x10_3).size : Int))) : Int).toNat).toList = (rdOf ByteArray.empty t355 x10_3).toList
             ·rw [if_pos c60] at H
              have c60b0 := e1 c60
              have c60b1 := e2 c60
              clear c60
              replace H := bS H
              obtain ⟨⟨t379, t380⟩, A61, H⟩ := H
              try dsimp only at H
              have H' := Aside0.mk H
              clear H
              try go_wp2
              replace HO_5 := Aside0.mk (Kd.R_drew HO_5.out)
              replace HO_6 := Aside0.mk (Kd.R_drew HO_6.out)
              replace BK351 := Aside0.mk (blk_drew BK351.out)
              replace BK359 := Aside0.mk (blk_drew BK359.out)
              replace HB := Aside0.mk (below_drew1 HB.out)
              have p375 : 0 ≤ (x10_3 : Int) := of_decide_eq_true Z3
              have q375 : x10_3 < (t355.length : Int) := of_decide_eq_true Z3
              obtain ⟨ad375, e375, hx375_0⟩ := Kd.at_string (Kd.R_reads' HO_6.out).2.2 x10_3 p375 q375
              cases e375
              replace p375 := eq_true p375
              replace q375 := eq_true q375
              have p376 : 0 ≤ (x10_3 : Int) := of_decide_eq_true Z3
              have q376 : x10_3 < (t355.length : Int) := of_decide_eq_true Z3
              obtain ⟨ad376, e376, hx376_0⟩ := Kd.at_string (Kd.R_reads' HO_6.out).2.2 x10_3 p376 q376
              obtain rfl : ad375 = ad376 := (by injection e376)
              replace p376 := eq_true p376
              replace q376 := eq_true q376
              have p377 : 0 ≤ (x10_3 : Int) := of_decide_eq_true Z3
              have q377 : x10_3 < (t355.length : Int) := of_decide_eq_true Z3
              obtain ⟨ad377, e377, hx377_0⟩ := Kd.at_string (Kd.R_reads' HO_6.out).2.2 x10_3 p377 q377
              obtain rfl : ad375 = ad377 := (by injection e377)
              replace p377 := eq_true p377
              replace q377 := eq_true q377
              refine start_ (n := 27) (S := fun w' => w'.cell? (ad375.add (x10_3).toNat) = some (.string (rdOf ByteArray.empty t355 x10_3)) ∧ w'.cell? (ad375.add (x10_3).toNat) = some (.string (rdOf ByteArray.empty t355 x10_3)) ∧ w'.cell? (ad375.add (x10_3).toNat) = some (.string (rdOf ByteArray.empty t355 x10_3))) (ds := []) #[false, false, false, false, false, false, false, false, false, false, false, false, false, false, false, false, false, false, false, false, false, false, false, false, false, false, false] Z5 rfl rfl ⟨hx375_0, hx376_0, hx377_0⟩ (fun hHeld => ?_); refine with_tabW quoinref26_match.tab16 quoinref26_match.bits16 (fun HT_ HW_ => ?_)
              generalize wr.drew = w62 at HO_5 HO_6 BK351 BK359 HB hx375_0 hx376_0 hx377_0 hHeld ⊢
              refine pU 0 102 (hc := (any_of HT_.out Z5)) (h := ?_)
              refine pU 1 103 (hc := (any_of HT_.out Z5)) (h := ?_)
              refine pU 2 104 (hc := (any_of HT_.out Z5)) (h := ?_)
              refine pU 3 105 (hc := (any_of HT_.out Z5)) (h := ?_)
              refine pU 7 109 (hc := (any_of HT_.out Z5)) (h := ?_)
              refine pU 8 110 (hc := (any_of HT_.out Z5)) (h := ?_)
              refine take_ (i := 4) (N := some 106) (v := ?_) (a' := ?_) #[true, true, true, true, true, false, false, true, true, false, false, false, false, false, false, false, false, false, false, false, false, false, false, false, false, false, false] rfl rfl (take_ofW HT_.out HW_.out Z5) (fun _ _ _ h => h) (Or.inl ⟨Z67, ?_⟩) hHeld ?_ ?_
              rotate_left
              ·rintro w' ⟨s0, s1, s2⟩
               go_simp
               with_reducible rfl
              rotate_left
              ·simp only [Act.put, List.setIfInBounds_toArray, List.set_cons_zero, List.set_cons_succ, i64_w, i32_w]
               rfl
              refine pU 5 107 (hc := (any_of HT_.out Z5)) (h := ?_)
              refine pU 6 108 (hc := (any_of HT_.out Z5)) (h := ?_)
              refine pU 9 111 (hc := (any_of HT_.out Z5)) (h := ?_)
              refine pU 10 112 (hc := (any_of HT_.out Z5)) (h := ?_)
              refine pU 11 113 (hc := (any_of HT_.out Z5)) (h := ?_)
              refine pU 12 114 (hc := (any_of HT_.out Z5)) (h := ?_)
              refine pU 13 115 (hc := (any_of HT_.out Z5)) (h := ?_)
              refine pU 14 116 (hc := (any_of HT_.out Z5)) (h := ?_)
              refine pU 15 117 (hc := (any_of HT_.out Z5)) (h := ?_)
              refine pU 16 118 (hc := (any_of HT_.out Z5)) (h := ?_)
              refine pU 21 123 (hc := (any_of HT_.out Z5)) (h := ?_)
              refine pU 22 124 (hc := (any_of HT_.out Z5)) (h := ?_)
              refine pU 23 125 (hc := (any_of HT_.out Z5)) (h := ?_)
              refine take_ (i := 17) (N := some 119) (v := ?_) (a' := ?_) #[true, true, true, true, true, true, true, true, true, true, true, true, true, true, true, true, true, true, false, false, false, true, true, true, false, false, false] rfl rfl (take_ofW HT_.out HW_.out Z5) (fun _ _ _ h => h) (Or.inl ⟨Z67, ?_⟩) hHeld ?_ ?_
              rotate_left
              ·rintro w' ⟨s0, s1, s2⟩
               go_simp
               with_reducible rfl
              rotate_left
              ·simp only [Act.put, List.setIfInBounds_toArray, List.set_cons_zero, List.set_cons_succ, i64_w, i32_w]
               rfl
              refine pU 18 120 (hc := (any_of HT_.out Z5)) (h := ?_)
              refine pU 19 121 (hc := (any_of HT_.out Z5)) (h := ?_)
              refine pU 20 122 (hc := (any_of HT_.out Z5)) (h := ?_)
              refine take_ (i := 24) (N := some 126) (v := ?_) (a' := ?_) #[true, true, true, true, true, true, true, true, true, true, true, true, true, true, true, true, true, true, true, true, true, true, true, true, true, false, false] rfl rfl (take_ofW HT_.out HW_.out Z5) (fun _ _ _ h => h) (Or.inl ⟨Z67, ?_⟩) hHeld ?_ ?_
              rotate_left
              ·rintro w' ⟨s0, s1, s2⟩
               go_simp
               with_reducible rfl
              rotate_left
              ·simp only [Act.put, List.setIfInBounds_toArray, List.set_cons_zero, List.set_cons_succ, i64_w, i32_w]
               rfl
              refine pU 25 127 (hc := (any_of HT_.out Z5)) (h := ?_)
              refine pU 26 128 (hc := (any_of HT_.out Z5)) (h := ?_)
              refine done_ (done_of HT_.out Z5) ?_
              try go_wp2
              replace HO_5 := Aside0.mk (Kd.R_drew HO_5.out)
              replace HO_6 := Aside0.mk (Kd.R_drew HO_6.out)
              replace BK351 := Aside0.mk (blk_drew BK351.out)
              replace BK359 := Aside0.mk (blk_drew BK359.out)
              replace HB := Aside0.mk (below_drew1 HB.out)
              have p378 : 0 ≤ (x10_3 : Int) := of_decide_eq_true Z3
              have q378 : x10_3 < (t355.length : Int) := of_decide_eq_true Z3
              obtain ⟨ad378, e378, hx378_0⟩ := Kd.at_string (Kd.R_reads' HO_6.out).2.2 x10_3 p378 q378
              obtain rfl : ad375 = ad378 := (by injection e378)
              replace p378 := eq_true p378
              replace q378 := eq_true q378
              refine start_ (n := 16) (S := fun w' => w'.cell? ⟨gb359, 0, none⟩ = some (.int .i64 x360000_3) ∧ w'.cell? ⟨gb359, 1, none⟩ = some (.int .i64 x360001_3) ∧ w'.cell? (ad375.add (x10_3).toNat) = some (.string (rdOf ByteArray.empty t355 x10_3))) (ds := [15]) #[false, false, false, false, false, false, false, false, false, false, false, false, false, false, false, false] Z5 rfl rfl ⟨(blk_cell BK359.out 0).trans rfl, (blk_cell BK359.out 1).trans rfl, hx378_0⟩ (fun hHeld => ?_); refine with_tabW quoinref26_match.tab17 quoinref26_match.bits17 (fun HT_ HW_ => ?_)
              generalize w62.drew = w63 at HO_5 HO_6 BK351 BK359 HB hx378_0 hHeld ⊢
              refine pU 1 130 (hc := (any_of HT_.out Z5)) (h := ?_)
              refine pU 2 131 (hc := (any_of HT_.out Z5)) (h := ?_)
              refine pU 3 132 (hc := (any_of HT_.out Z5)) (h := ?_)
              refine pU 4 133 (hc := (any_of HT_.out Z5)) (h := ?_)
              refine pU 5 134 (hc := (any_of HT_.out Z5)) (h := ?_)
              refine pU 6 135 (hc := (any_of HT_.out Z5)) (h := ?_)
              refine pU 7 136 (hc := (any_of HT_.out Z5)) (h := ?_)
              refine pU 8 137 (hc := (any_of HT_.out Z5)) (h := ?_)
              refine pU 9 138 (hc := (any_of HT_.out Z5)) (h := ?_)
              refine pU 10 139 (hc := (any_of HT_.out Z5)) (h := ?_)
              refine take_ (i := 0) (N := some 129) (v := ?_) (a' := ?_) #[true, true, true, true, true, true, true, true, true, true, true, false, false, false, false, false] rfl rfl (take_ofW HT_.out HW_.out Z5) (fun _ _ _ h => h) (Or.inl ⟨Z67, ?_⟩) hHeld ?_ ?_
              rotate_left
              ·rintro w' ⟨s0, s1, s2⟩
               go_simp
               with_reducible rfl
              rotate_left
              ·simp only [Act.put, List.setIfInBounds_toArray, List.set_cons_zero, List.set_cons_succ, i64_w, i32_w]
               rfl
              refine take_ (i := 11) (N := some 140) (v := ?_) (a' := ?_) #[true, true, true, true, true, true, true, true, true, true, true, true, false, false, false, false] rfl rfl (take_ofW HT_.out HW_.out Z5) (fun _ _ _ h => h) (Or.inl ⟨Z67, ?_⟩) hHeld ?_ ?_
              rotate_left
              ·rintro w' ⟨s0, s1, s2⟩
               go_simp
               with_reducible rfl
              rotate_left
              ·simp only [Act.put, List.setIfInBounds_toArray, List.set_cons_zero, List.set_cons_succ, i64_w, i32_w]
               rfl
              refine pU 12 141 (hc := (any_of HT_.out Z5)) (h := ?_)
              refine pU 13 142 (hc := (any_of HT_.out Z5)) (h := ?_)
              refine oN 14 (some 143) (hc := (one_of HT_.out Z5)) (h := fun K hK => ?_)
              refine gO Try.func51 #[.agg #[.int .i64 x360000_3, .int .i64 x360001_3], .int .i64 (wrap64 ((wrap64 (8 + (wrap64 ((t352.length : Int) / 2)))) + x10_3)), .int .i64 (wrap64 (a1 + ((rdOf ByteArray.empty t355 x10_3).size : Int)))] (h := ?_)
              with_reducible refine (quoinref26_best_with.calls A61.out).mono ?_
              rintro e w64 ⟨rfl, hb⟩
              have HS2_ := (hb.cell (World.block_lt_of_cell? _ _ (hHeld.2.2))).trans (hHeld.2.2)
              refine ⟨_, rfl, ?_⟩
              replace HO_5 := Aside0.mk (Kd.R_below (kK HO_5) hb)
              replace HO_6 := Aside0.mk (Kd.R_below (kK HO_6) hb)
              replace BK351 := Aside0.mk (blk_below (g := gb351) (o := .cells #[.int .i64 0, .int .i64 0] 55 (0, 0)) (bK BK351) hb)
              replace BK359 := Aside0.mk (blk_below (g := gb359) (o := .cells #[.int .i64 x360000_3, .int .i64 x360001_3] 55 (0, 0)) (bK BK359) hb)
              replace HB := Aside0.mk (below_step zB hb)
              (try clear hb)
              (try clear hb2)
              (try clear hk)
              (try clear hi)
              refine hK.out _ _ ⟨(blk_cell BK359.out 0).trans rfl, (blk_cell BK359.out 1).trans rfl, HS2_⟩ (fun hHeld => ?_)
              clear hK K
              refine nO 143 (h := ?_)
              refine last_ (i := 15) (N := none) #[true, true, true, true, true, true, true, true, true, true, true, true, true, true, true, true] rfl rfl (one_of HT_.out Z5) Z43 (fun K hK => ?_)
              have hs65 := bC BK359 0 (.int .i64 x360000_3)
              have hfs65 := blk_frozen BK359.out 0
              have hns65_0 := NB351_359.out
              have hms65_0 := NB359_351.out
              have hs66 := bC BK359 1 (.int .i64 x360001_3)
              have hfs66 := blk_frozen BK359.out 1
              have hns66_0 := NB351_359.out
              have hms66_0 := NB359_351.out
              refine skip_ (w1 := ?_) Z67 rfl ?_ ?_
              rotate_left
              ·go_simp
               rfl
              refine hK.out _ _ ?_
              clear hK K
              refine done_ (done_of HT_.out Z5) ?_
              try go_wp2
              go_roundg k3
              case measure => have := HJ6.out; have := HK2.out; have := HK3.out; omega
              case rel => exact ⟨(wrap64 (x10_3 + 1)), (t379), (t380), Z1, H', ⟨by have := HJ6.out; have := HK2.out; have := HK3.out; omega⟩, ⟨by (with_reducible repeat (first | apply Kd.R_alloc | apply Kd.R_drewN | apply Kd.R_drew)); exact Kd.R_mono (Kd.R_far (p := ⟨gb359, 1, none⟩) (Kd.R_far (p := ⟨gb359, 0, none⟩) (Kd.R_types HO_5.out BK359.out Z43) (fun _ hk => hk.2) (.int .i64 t379)) (fun _ hk => hk.2) (.int .i64 t380)) (fun _ hk => hk.1)⟩, ⟨by (with_reducible repeat (first | apply Kd.R_alloc | apply Kd.R_drewN | apply Kd.R_drew)); exact Kd.R_mono (Kd.R_far (p := ⟨gb359, 1, none⟩) (Kd.R_far (p := ⟨gb359, 0, none⟩) (Kd.R_types HO_6.out BK359.out Z43) (fun _ hk => hk.2) (.int .i64 t379)) (fun _ hk => hk.2) (.int .i64 t380)) (fun _ hk => hk.1)⟩, ⟨Z6⟩, ⟨by (with_reducible repeat (first | refine blk_drewN ?_ _ | refine blk_drew ?_ | refine blk_alloc ?_ _)); refine blk_put (cs := #[.int .i64 t379, .int .i64 x360001_3]) ?_ 1 _ rfl; (with_reducible repeat (first | refine blk_drewN ?_ _ | refine blk_drew ?_ | refine blk_alloc ?_ _)); refine blk_put (cs := #[.int .i64 x360000_3, .int .i64 x360001_3]) ?_ 0 _ rfl; (with_reducible repeat (first | refine blk_drewN ?_ _ | refine blk_drew ?_ | refine blk_alloc ?_ _)); exact BK359.out⟩, ⟨Z0⟩⟩
             ·rw [if_neg c60] at H
              have c60b0 := e3 c60
              have c60b1 := e4 c60
              have H' := Aside0.mk H
              clear H
              try go_wp2
              replace HO_5 := Aside0.mk (Kd.R_drew HO_5.out)
              replace HO_6 := Aside0.mk (Kd.R_drew HO_6.out)
              replace BK351 := Aside0.mk (blk_drew BK351.out)
              replace BK359 := Aside0.mk (blk_drew BK359.out)
              replace HB := Aside0.mk (below_drew1 HB.out)
              have p375 : 0 ≤ (x10_3 : Int) := of_decide_eq_true Z3
              have q375 : x10_3 < (t355.length : Int) := of_decide_eq_true Z3
              obtain ⟨ad375, e375, hx375_0⟩ := Kd.at_string (Kd.R_reads' HO_6.out).2.2 x10_3 p375 q375
              cases e375
              replace p375 := eq_true p375
              replace q375 := eq_true q375
              have p376 : 0 ≤ (x10_3 : Int) := of_decide_eq_true Z3
              have q376 : x10_3 < (t355.length : Int) := of_decide_eq_true Z3
              obtain ⟨ad376, e376, hx376_0⟩ := Kd.at_string (Kd.R_reads' HO_6.out).2.2 x10_3 p376 q376
              obtain rfl : ad375 = ad376 := (by injection e376)
              replace p376 := eq_true p376
              replace q376 := eq_true q376
              have p377 : 0 ≤ (x10_3 : Int) := of_decide_eq_true Z3
              have q377 : x10_3 < (t355.length : Int) := of_decide_eq_true Z3
              obtain ⟨ad377, e377, hx377_0⟩ := Kd.at_string (Kd.R_reads' HO_6.out).2.2 x10_3 p377 q377
              obtain rfl : ad375 = ad377 := (by injection e377)
              replace p377 := eq_true p377
              replace q377 := eq_true q377
              refine start_ (n := 27) (S := fun w' => w'.cell? (ad375.add (x10_3).toNat) = some (.string (rdOf ByteArray.empty t355 x10_3)) ∧ w'.cell? (ad375.add (x10_3).toNat) = some (.string (rdOf ByteArray.empty t355 x10_3)) ∧ w'.cell? (ad375.add (x10_3).toNat) = some (.string (rdOf ByteArray.empty t355 x10_3))) (ds := []) #[false, false, false, false, false, false, false, false, false, false, false, false, false, false, false, false, false, false, false, false, false, false, false, false, false, false, false] Z5 rfl rfl ⟨hx375_0, hx376_0, hx377_0⟩ (fun hHeld => ?_); refine with_tabW quoinref26_match.tab16 quoinref26_match.bits16 (fun HT_ HW_ => ?_)
              generalize wr.drew = w67 at HO_5 HO_6 BK351 BK359 HB hx375_0 hx376_0 hx377_0 hHeld ⊢
              refine pU 0 102 (hc := (any_of HT_.out Z5)) (h := ?_)
              refine pU 1 103 (hc := (any_of HT_.out Z5)) (h := ?_)
              refine pU 2 104 (hc := (any_of HT_.out Z5)) (h := ?_)
              refine pU 3 105 (hc := (any_of HT_.out Z5)) (h := ?_)
              refine pU 7 109 (hc := (any_of HT_.out Z5)) (h := ?_)
              refine pU 8 110 (hc := (any_of HT_.out Z5)) (h := ?_)
              refine take_ (i := 4) (N := some 106) (v := ?_) (a' := ?_) #[true, true, true, true, true, false, false, true, true, false, false, false, false, false, false, false, false, false, false, false, false, false, false, false, false, false, false] rfl rfl (take_ofW HT_.out HW_.out Z5) (fun _ _ _ h => h) (Or.inl ⟨Z67, ?_⟩) hHeld ?_ ?_
              rotate_left
              ·rintro w' ⟨s0, s1, s2⟩
               go_simp
               with_reducible rfl
              rotate_left
              ·simp only [Act.put, List.setIfInBounds_toArray, List.set_cons_zero, List.set_cons_succ, i64_w, i32_w]
               rfl
              refine pU 5 107 (hc := (any_of HT_.out Z5)) (h := ?_)
              refine pU 6 108 (hc := (any_of HT_.out Z5)) (h := ?_)
              refine pU 9 111 (hc := (any_of HT_.out Z5)) (h := ?_)
              refine pU 10 112 (hc := (any_of HT_.out Z5)) (h := ?_)
              refine pU 11 113 (hc := (any_of HT_.out Z5)) (h := ?_)
              refine pU 12 114 (hc := (any_of HT_.out Z5)) (h := ?_)
              refine pU 13 115 (hc := (any_of HT_.out Z5)) (h := ?_)
              refine pU 14 116 (hc := (any_of HT_.out Z5)) (h := ?_)
              refine pU 15 117 (hc := (any_of HT_.out Z5)) (h := ?_)
              refine pU 16 118 (hc := (any_of HT_.out Z5)) (h := ?_)
              refine pU 21 123 (hc := (any_of HT_.out Z5)) (h := ?_)
              refine pU 22 124 (hc := (any_of HT_.out Z5)) (h := ?_)
              refine pU 23 125 (hc := (any_of HT_.out Z5)) (h := ?_)
              refine take_ (i := 17) (N := some 119) (v := ?_) (a' := ?_) #[true, true, true, true, true, true, true, true, true, true, true, true, true, true, true, true, true, true, false, false, false, true, true, true, false, false, false] rfl rfl (take_ofW HT_.out HW_.out Z5) (fun _ _ _ h => h) (Or.inl ⟨Z67, ?_⟩) hHeld ?_ ?_
              rotate_left
              ·rintro w' ⟨s0, s1, s2⟩
               go_simp
               with_reducible rfl
              rotate_left
              ·simp only [Act.put, List.setIfInBounds_toArray, List.set_cons_zero, List.set_cons_succ, i64_w, i32_w]
               rfl
              refine pU 18 120 (hc := (any_of HT_.out Z5)) (h := ?_)
              refine pU 19 121 (hc := (any_of HT_.out Z5)) (h := ?_)
              refine pU 20 122 (hc := (any_of HT_.out Z5)) (h := ?_)
              refine take_ (i := 24) (N := some 126) (v := ?_) (a' := ?_) #[true, true, true, true, true, true, true, true, true, true, true, true, true, true, true, true, true, true, true, true, true, true, true, true, true, false, false] rfl rfl (take_ofW HT_.out HW_.out Z5) (fun _ _ _ h => h) (Or.inl ⟨Z67, ?_⟩) hHeld ?_ ?_
              rotate_left
              ·rintro w' ⟨s0, s1, s2⟩
               go_simp
               with_reducible rfl
              rotate_left
              ·simp only [Act.put, List.setIfInBounds_toArray, List.set_cons_zero, List.set_cons_succ, i64_w, i32_w]
               rfl
              refine pU 25 127 (hc := (any_of HT_.out Z5)) (h := ?_)
              refine pU 26 128 (hc := (any_of HT_.out Z5)) (h := ?_)
              refine done_ (done_of HT_.out Z5) ?_
              try go_wp2
              go_roundg k3
              case measure => have := HJ6.out; have := HK2.out; have := HK3.out; omega
              case rel => exact ⟨(wrap64 (x10_3 + 1)), (x360000_3), (x360001_3), Z1, H', ⟨by have := HJ6.out; have := HK2.out; have := HK3.out; omega⟩, ⟨Z20⟩, ⟨Z63⟩, ⟨Z60⟩, ⟨Z59⟩, ⟨Z0⟩⟩
            ·rw [if_neg c58] at H
             exact absurd H Z61
           ·rw [if_neg c57] at H
            exact absurd H Z61
          ·rw [if_neg c56] at H
           have c56b0 := decide_eq_false c56
           clear c56
           have H' := Aside0.mk H
           clear H
           try go_wp2
           replace HO_5 := Aside0.mk (Kd.R_drew HO_5.out)
           replace HO_6 := Aside0.mk (Kd.R_drew HO_6.out)
           replace BK351 := Aside0.mk (blk_drew BK351.out)
           replace BK359 := Aside0.mk (blk_drew BK359.out)
           replace HB := Aside0.mk (below_drew1 HB.out)
           have p375 : 0 ≤ (x10_3 : Int) := of_decide_eq_true Z3
           have q375 : x10_3 < (t355.length : Int) := of_decide_eq_true Z3
           obtain ⟨ad375, e375, hx375_0⟩ := Kd.at_string (Kd.R_reads' HO_6.out).2.2 x10_3 p375 q375
           cases e375
           replace p375 := eq_true p375
           replace q375 := eq_true q375
           refine start_ (n := 27) (S := fun w' => w'.cell? (ad375.add (x10_3).toNat) = some (.string (rdOf ByteArray.empty t355 x10_3))) (ds := []) #[false, false, false, false, false, false, false, false, false, false, false, false, false, false, false, false, false, false, false, false, false, false, false, false, false, false, false] Z5 rfl rfl (hx375_0) (fun hHeld => ?_); refine with_tabW quoinref26_match.tab16 quoinref26_match.bits16 (fun HT_ HW_ => ?_)
           generalize wr.drew = w68 at HO_5 HO_6 BK351 BK359 HB hx375_0 hHeld ⊢
           refine pU 0 102 (hc := (any_of HT_.out Z5)) (h := ?_)
           refine pU 1 103 (hc := (any_of HT_.out Z5)) (h := ?_)
           refine pU 2 104 (hc := (any_of HT_.out Z5)) (h := ?_)
           refine pU 3 105 (hc := (any_of HT_.out Z5)) (h := ?_)
           refine pU 7 109 (hc := (any_of HT_.out Z5)) (h := ?_)
           refine pU 8 110 (hc := (any_of HT_.out Z5)) (h := ?_)
           refine take_ (i := 4) (N := some 106) (v := ?_) (a' := ?_) #[true, true, true, true, true, false, false, true, true, false, false, false, false, false, false, false, false, false, false, false, false, false, false, false, false, false, false] rfl rfl (take_ofW HT_.out HW_.out Z5) (fun _ _ _ h => h) (Or.inl ⟨Z67, ?_⟩) hHeld ?_ ?_
           rotate_left
           ·intro w' s0
            go_simp
            with_reducible rfl
           rotate_left
           ·simp only [Act.put, List.setIfInBounds_toArray, List.set_cons_zero, List.set_cons_succ, i64_w, i32_w]
            rfl
           refine pU 5 107 (hc := (any_of HT_.out Z5)) (h := ?_)
           refine pU 6 108 (hc := (any_of HT_.out Z5)) (h := ?_)
           refine pU 9 111 (hc := (any_of HT_.out Z5)) (h := ?_)
           refine pU 10 112 (hc := (any_of HT_.out Z5)) (h := ?_)
           refine pV 11 113 (hc := (any_of HT_.out Z5)) (h := ?_)
           refine pV 12 114 (hc := (any_of HT_.out Z5)) (h := ?_)
           refine pV 13 115 (hc := (any_of HT_.out Z5)) (h := ?_)
           refine pV 14 116 (hc := (any_of HT_.out Z5)) (h := ?_)
           refine pV 15 117 (hc := (any_of HT_.out Z5)) (h := ?_)
           refine pV 16 118 (hc := (any_of HT_.out Z5)) (h := ?_)
           refine pV 17 119 (hc := (any_of HT_.out Z5)) (h := ?_)
           refine pV 18 120 (hc := (any_of HT_.out Z5)) (h := ?_)
           refine pV 19 121 (hc := (any_of HT_.out Z5)) (h := ?_)
           refine pV 20 122 (hc := (any_of HT_.out Z5)) (h := ?_)
           refine pV 21 123 (hc := (any_of HT_.out Z5)) (h := ?_)
           refine pV 22 124 (hc := (any_of HT_.out Z5)) (h := ?_)
           refine pV 23 125 (hc := (any_of HT_.out Z5)) (h := ?_)
           refine pV 24 126 (hc := (any_of HT_.out Z5)) (h := ?_)
           refine pV 25 127 (hc := (any_of HT_.out Z5)) (h := ?_)
           refine pU 26 128 (hc := (any_of HT_.out Z5)) (h := ?_)
           refine done_ (done_of HT_.out Z5) ?_
           try go_wp2
           go_roundg k3
           case measure => have := HJ6.out; have := HK2.out; have := HK3.out; omega
           case rel => exact ⟨(wrap64 (x10_3 + 1)), (x360000_3), (x360001_3), Z1, H', ⟨by have := HJ6.out; have := HK2.out; have := HK3.out; omega⟩, ⟨Z20⟩, ⟨Z63⟩, ⟨Z60⟩, ⟨Z59⟩, ⟨Z0⟩⟩
         ·rw [if_neg c55] at H
          exact absurd H Z61
        ·rw [if_neg c54] at H
         have c54b0 := decide_eq_false c54
         clear c54
         replace H := bS H
         obtain ⟨t381, A69, H⟩ := H
         try dsimp only at H
         replace H := bS H
         obtain ⟨⟨t382, t383⟩, A70, H⟩ := H
         try dsimp only at H
         replace H := bS H
         obtain ⟨t384, A71, H⟩ := H
         try dsimp only at H
         replace H := bS H
         obtain ⟨⟨t385, t386⟩, A72, H⟩ := H
         try dsimp only at H
         replace H := bS H
         obtain ⟨t387, A73, H⟩ := H
         try dsimp only at H
         replace H := bS H
         obtain ⟨⟨t388, t389⟩, A74, H⟩ := H
         try dsimp only at H
         replace H := bS H
         obtain ⟨t390, A75, H⟩ := H
         try dsimp only at H
         replace H := bS H
         obtain ⟨⟨t391, t392⟩, A76, H⟩ := H
         try dsimp only at H
         replace H := bS H
         obtain ⟨t393, A77, H⟩ := H
         try dsimp only at H
         replace H := bS H
         obtain ⟨⟨t394, t395⟩, A78, H⟩ := H
         try dsimp only at H
         replace H := bS H
         obtain ⟨t396, A79, H⟩ := H
         try dsimp only at H
         replace H := bS H
         obtain ⟨⟨t397, t398⟩, A80, H⟩ := H
         try dsimp only at H
         simp only [Option.some.injEq, Prod.mk.injEq] at H
         obtain ⟨rfl, rfl⟩ := H
         try go_wp2
         replace HO_5 := Aside0.mk (Kd.R_drew HO_5.out)
         replace HO_6 := Aside0.mk (Kd.R_drew HO_6.out)
         replace BK351 := Aside0.mk (blk_drew BK351.out)
         replace BK359 := Aside0.mk (blk_drew BK359.out)
         replace HB := Aside0.mk (below_drew1 HB.out)
         refine start_ (n := 6) (S := fun w' => w'.cell? ⟨gb359, 0, none⟩ = some (.int .i64 x360000_3) ∧ w'.cell? ⟨gb359, 1, none⟩ = some (.int .i64 x360001_3)) (ds := [5]) #[false, false, false, false, false, false] Z5 rfl rfl ⟨(blk_cell BK359.out 0).trans rfl, (blk_cell BK359.out 1).trans rfl⟩ (fun hHeld => ?_)
         generalize wr.drew = w81 at HO_5 HO_6 BK351 BK359 HB hHeld ⊢
         refine pU 1 145 (hc := Z5) (h := ?_)
         refine pU 2 146 (hc := Z5) (h := ?_)
         refine take_ (i := 0) (N := some 144) (v := ?_) (a' := ?_) #[true, true, true, false, false, false] rfl rfl Z5 (fun _ _ _ h => h) (Or.inl ⟨Z67, ?_⟩) hHeld ?_ ?_
         rotate_left
         ·rintro w' ⟨s0, s1⟩
          go_simp
          with_reducible rfl
         rotate_left
         ·simp only [Act.put, List.setIfInBounds_toArray, List.set_cons_zero, List.set_cons_succ, i64_w, i32_w]
          rfl
         refine oN 3 (some 147) (hc := Z5) (h := fun K hK => ?_)
         refine gS Try.func54 (quoinref26_word.calls A69.out) (h := ?_)
         rintro w82 hb
         replace HO_5 := Aside0.mk (Kd.R_below (kK HO_5) hb)
         replace HO_6 := Aside0.mk (Kd.R_below (kK HO_6) hb)
         replace BK351 := Aside0.mk (blk_below (g := gb351) (o := .cells #[.int .i64 0, .int .i64 0] 55 (0, 0)) (bK BK351) hb)
         replace BK359 := Aside0.mk (blk_below (g := gb359) (o := .cells #[.int .i64 x360000_3, .int .i64 x360001_3] 55 (0, 0)) (bK BK359) hb)
         replace HB := Aside0.mk (below_step zB hb)
         (try clear hb)
         (try clear hb2)
         (try clear hk)
         (try clear hi)
         refine hK.out _ _ ⟨(blk_cell BK359.out 0).trans rfl, (blk_cell BK359.out 1).trans rfl⟩ (fun hHeld => ?_)
         clear hK K
         refine nO 147 (h := ?_)
         refine oN 4 (some 148) (hc := Z5) (h := fun K hK => ?_)
         refine gS Try.func51 (quoinref26_best_with.calls A70.out) (h := ?_)
         rintro w83 hb
         replace HO_5 := Aside0.mk (Kd.R_below (kK HO_5) hb)
         replace HO_6 := Aside0.mk (Kd.R_below (kK HO_6) hb)
         replace BK351 := Aside0.mk (blk_below (g := gb351) (o := .cells #[.int .i64 0, .int .i64 0] 55 (0, 0)) (bK BK351) hb)
         replace BK359 := Aside0.mk (blk_below (g := gb359) (o := .cells #[.int .i64 x360000_3, .int .i64 x360001_3] 55 (0, 0)) (bK BK359) hb)
         replace HB := Aside0.mk (below_step zB hb)
         (try clear hb)
         (try clear hb2)
         (try clear hk)
         (try clear hi)
         refine hK.out _ _ ⟨(blk_cell BK359.out 0).trans rfl, (blk_cell BK359.out 1).trans rfl⟩ (fun hHeld => ?_)
         clear hK K
         refine nO 148 (h := ?_)
         refine last_ (i := 5) (N := none) #[true, true, true, true, true, true] rfl rfl Z5 Z43 (fun K hK => ?_)
         have hs84 := bC BK359 0 (.int .i64 x360000_3)
         have hfs84 := blk_frozen BK359.out 0
         have hns84_0 := NB351_359.out
         have hms84_0 := NB359_351.out
         have hs85 := bC BK359 1 (.int .i64 x360001_3)
         have hfs85 := blk_frozen BK359.out 1
         have hns85_0 := NB351_359.out
         have hms85_0 := NB359_351.out
         refine skip_ (w1 := ?_) Z67 rfl ?_ ?_
         rotate_left
         ·go_simp
          rfl
         refine hK.out _ _ ?_
         clear hK K
         refine done_ Z5 ?_
         try go_wp2
         have n0_ : Aside0 (Kd.R Kd.string 9 ((w83.setCell ⟨gb359, 0, none⟩ (.int .i64 t382)).setCell ⟨gb359, 1, none⟩ (.int .i64 t383)) w.heap.size (fun k_ => some k_ ≠ (.slice Ao12 t355.length co12 : Value).ownBlock) (.slice Ao11 t352.length co11) t352) := ⟨by (with_reducible repeat (first | apply Kd.R_alloc | apply Kd.R_drewN | apply Kd.R_drew)); exact Kd.R_mono (Kd.R_far (p := ⟨gb359, 1, none⟩) (Kd.R_far (p := ⟨gb359, 0, none⟩) (Kd.R_types HO_5.out BK359.out Z43) (fun _ hk => hk.2) (.int .i64 t382)) (fun _ hk => hk.2) (.int .i64 t383)) (fun _ hk => hk.1)⟩
         have n1_ : Aside0 (Kd.R Kd.string 9 ((w83.setCell ⟨gb359, 0, none⟩ (.int .i64 t382)).setCell ⟨gb359, 1, none⟩ (.int .i64 t383)) w.heap.size (fun k_ => some k_ ≠ (.slice Ao11 t352.length co11 : Value).ownBlock) (.slice Ao12 t355.length co12) t355) := ⟨by (with_reducible repeat (first | apply Kd.R_alloc | apply Kd.R_drewN | apply Kd.R_drew)); exact Kd.R_mono (Kd.R_far (p := ⟨gb359, 1, none⟩) (Kd.R_far (p := ⟨gb359, 0, none⟩) (Kd.R_types HO_6.out BK359.out Z43) (fun _ hk => hk.2) (.int .i64 t382)) (fun _ hk => hk.2) (.int .i64 t383)) (fun _ hk => hk.1)⟩
         have n2_ : Aside0 (((w83.setCell ⟨gb359, 0, none⟩ (.int .i64 t382)).setCell ⟨gb359, 1, none⟩ (.int .i64 t383)).heap[gb351]? = some (.cells #[.int .i64 0, .int .i64 0] 55 (0, 0))) := ⟨Z6⟩
         have n3_ : Aside0 (((w83.setCell ⟨gb359, 0, none⟩ (.int .i64 t382)).setCell ⟨gb359, 1, none⟩ (.int .i64 t383)).heap[gb359]? = some (.cells #[.int .i64 t382, .int .i64 t383] 55 (0, 0))) := ⟨by (with_reducible repeat (first | refine blk_drewN ?_ _ | refine blk_drew ?_ | refine blk_alloc ?_ _)); refine blk_put (cs := #[.int .i64 t382, .int .i64 x360001_3]) ?_ 1 _ rfl; (with_reducible repeat (first | refine blk_drewN ?_ _ | refine blk_drew ?_ | refine blk_alloc ?_ _)); refine blk_put (cs := #[.int .i64 x360000_3, .int .i64 x360001_3]) ?_ 0 _ rfl; (with_reducible repeat (first | refine blk_drewN ?_ _ | refine blk_drew ?_ | refine blk_alloc ?_ _)); exact BK359.out⟩
         have n4_ : Aside0 (Below w.heap.size w ((w83.setCell ⟨gb359, 0, none⟩ (.int .i64 t382)).setCell ⟨gb359, 1, none⟩ (.int .i64 t383))) := ⟨Z0⟩
         (try clear HO_5)
         (try clear HO_6)
         (try clear BK351)
         (try clear BK359)
         (try clear HB)
         generalize ((w83.setCell ⟨gb359, 0, none⟩ (.int .i64 t382)).setCell ⟨gb359, 1, none⟩ (.int .i64 t383)) = w86 at n0_ n1_ n2_ n3_ n4_ ⊢
         have HO_5 := n0_
         have HO_6 := n1_
         have BK351 := n2_
         have BK359 := n3_
         have HB := n4_
         clear n0_ n1_ n2_ n3_ n4_
         replace HO_5 := Aside0.mk (Kd.R_drew HO_5.out)
         replace HO_6 := Aside0.mk (Kd.R_drew HO_6.out)
         replace BK351 := Aside0.mk (blk_drew BK351.out)
         replace BK359 := Aside0.mk (blk_drew BK359.out)
         replace HB := Aside0.mk (below_drew1 HB.out)
         refine start_ (n := 6) (S := fun w' => w'.cell? ⟨gb359, 0, none⟩ = some (.int .i64 t382) ∧ w'.cell? ⟨gb359, 1, none⟩ = some (.int .i64 t383)) (ds := [5]) #[false, false, false, false, false, false] Z5 rfl rfl ⟨(blk_cell BK359.out 0).trans rfl, (blk_cell BK359.out 1).trans rfl⟩ (fun hHeld => ?_)
         generalize w86.drew = w87 at HO_5 HO_6 BK351 BK359 HB hHeld ⊢
         refine pU 1 150 (hc := Z5) (h := ?_)
         refine pU 2 151 (hc := Z5) (h := ?_)
         refine take_ (i := 0) (N := some 149) (v := ?_) (a' := ?_) #[true, true, true, false, false, false] rfl rfl Z5 (fun _ _ _ h => h) (Or.inl ⟨Z67, ?_⟩) hHeld ?_ ?_
         rotate_left
         ·rintro w' ⟨s0, s1⟩
          go_simp
          with_reducible rfl
         rotate_left
         ·simp only [Act.put, List.setIfInBounds_toArray, List.set_cons_zero, List.set_cons_succ, i64_w, i32_w]
          rfl
         refine oN 3 (some 152) (hc := Z5) (h := fun K hK => ?_)
         refine gS Try.func55 (quoinref26_whole.calls A71.out) (h := ?_)
         rintro w88 hb
         replace HO_5 := Aside0.mk (Kd.R_below (kK HO_5) hb)
         replace HO_6 := Aside0.mk (Kd.R_below (kK HO_6) hb)
         replace BK351 := Aside0.mk (blk_below (g := gb351) (o := .cells #[.int .i64 0, .int .i64 0] 55 (0, 0)) (bK BK351) hb)
         replace BK359 := Aside0.mk (blk_below (g := gb359) (o := .cells #[.int .i64 t382, .int .i64 t383] 55 (0, 0)) (bK BK359) hb)
         replace HB := Aside0.mk (below_step zB hb)
         (try clear hb)
         (try clear hb2)
         (try clear hk)
         (try clear hi)
         refine hK.out _ _ ⟨(blk_cell BK359.out 0).trans rfl, (blk_cell BK359.out 1).trans rfl⟩ (fun hHeld => ?_)
         clear hK K
         refine nO 152 (h := ?_)
         refine oN 4 (some 153) (hc := Z5) (h := fun K hK => ?_)
         refine gS Try.func51 (quoinref26_best_with.calls A72.out) (h := ?_)
         rintro w89 hb
         replace HO_5 := Aside0.mk (Kd.R_below (kK HO_5) hb)
         replace HO_6 := Aside0.mk (Kd.R_below (kK HO_6) hb)
         replace BK351 := Aside0.mk (blk_below (g := gb351) (o := .cells #[.int .i64 0, .int .i64 0] 55 (0, 0)) (bK BK351) hb)
         replace BK359 := Aside0.mk (blk_below (g := gb359) (o := .cells #[.int .i64 t382, .int .i64 t383] 55 (0, 0)) (bK BK359) hb)
         replace HB := Aside0.mk (below_step zB hb)
         (try clear hb)
         (try clear hb2)
         (try clear hk)
         (try clear hi)
         refine hK.out _ _ ⟨(blk_cell BK359.out 0).trans rfl, (blk_cell BK359.out 1).trans rfl⟩ (fun hHeld => ?_)
         clear hK K
         refine nO 153 (h := ?_)
         refine last_ (i := 5) (N := none) #[true, true, true, true, true, true] rfl rfl Z5 Z43 (fun K hK => ?_)
         have hs90 := bC BK359 0 (.int .i64 t382)
         have hfs90 := blk_frozen BK359.out 0
         have hns90_0 := NB351_359.out
         have hms90_0 := NB359_351.out
         have hs91 := bC BK359 1 (.int .i64 t383)
         have hfs91 := blk_frozen BK359.out 1
         have hns91_0 := NB351_359.out
         have hms91_0 := NB359_351.out
         refine skip_ (w1 := ?_) Z67 rfl ?_ ?_
         rotate_left
         ·go_simp
          rfl
         refine hK.out _ _ ?_
         clear hK K
         refine done_ Z5 ?_
         try go_wp2
         have n0_ : Aside0 (Kd.R Kd.string 9 ((w89.setCell ⟨gb359, 0, none⟩ (.int .i64 t385)).setCell ⟨gb359, 1, none⟩ (.int .i64 t386)) w.heap.size (fun k_ => some k_ ≠ (.slice Ao12 t355.length co12 : Value).ownBlock) (.slice Ao11 t352.length co11) t352) := ⟨by (with_reducible repeat (first | apply Kd.R_alloc | apply Kd.R_drewN | apply Kd.R_drew)); exact Kd.R_mono (Kd.R_far (p := ⟨gb359, 1, none⟩) (Kd.R_far (p := ⟨gb359, 0, none⟩) (Kd.R_types HO_5.out BK359.out Z43) (fun _ hk => hk.2) (.int .i64 t385)) (fun _ hk => hk.2) (.int .i64 t386)) (fun _ hk => hk.1)⟩
         have n1_ : Aside0 (Kd.R Kd.string 9 ((w89.setCell ⟨gb359, 0, none⟩ (.int .i64 t385)).setCell ⟨gb359, 1, none⟩ (.int .i64 t386)) w.heap.size (fun k_ => some k_ ≠ (.slice Ao11 t352.length co11 : Value).ownBlock) (.slice Ao12 t355.length co12) t355) := ⟨by (with_reducible repeat (first | apply Kd.R_alloc | apply Kd.R_drewN | apply Kd.R_drew)); exact Kd.R_mono (Kd.R_far (p := ⟨gb359, 1, none⟩) (Kd.R_far (p := ⟨gb359, 0, none⟩) (Kd.R_types HO_6.out BK359.out Z43) (fun _ hk => hk.2) (.int .i64 t385)) (fun _ hk => hk.2) (.int .i64 t386)) (fun _ hk => hk.1)⟩
         have n2_ : Aside0 (((w89.setCell ⟨gb359, 0, none⟩ (.int .i64 t385)).setCell ⟨gb359, 1, none⟩ (.int .i64 t386)).heap[gb351]? = some (.cells #[.int .i64 0, .int .i64 0] 55 (0, 0))) := ⟨Z6⟩
         have n3_ : Aside0 (((w89.setCell ⟨gb359, 0, none⟩ (.int .i64 t385)).setCell ⟨gb359, 1, none⟩ (.int .i64 t386)).heap[gb359]? = some (.cells #[.int .i64 t385, .int .i64 t386] 55 (0, 0))) := ⟨by (with_reducible repeat (first | refine blk_drewN ?_ _ | refine blk_drew ?_ | refine blk_alloc ?_ _)); refine blk_put (cs := #[.int .i64 t385, .int .i64 t383]) ?_ 1 _ rfl; (with_reducible repeat (first | refine blk_drewN ?_ _ | refine blk_drew ?_ | refine blk_alloc ?_ _)); refine blk_put (cs := #[.int .i64 t382, .int .i64 t383]) ?_ 0 _ rfl; (with_reducible repeat (first | refine blk_drewN ?_ _ | refine blk_drew ?_ | refine blk_alloc ?_ _)); exact BK359.out⟩
         have n4_ : Aside0 (Below w.heap.size w ((w89.setCell ⟨gb359, 0, none⟩ (.int .i64 t385)).setCell ⟨gb359, 1, none⟩ (.int .i64 t386))) := ⟨Z0⟩
         (try clear HO_5)
         (try clear HO_6)
         (try clear BK351)
         (try clear BK359)
         (try clear HB)
         generalize ((w89.setCell ⟨gb359, 0, none⟩ (.int .i64 t385)).setCell ⟨gb359, 1, none⟩ (.int .i64 t386)) = w92 at n0_ n1_ n2_ n3_ n4_ ⊢
         have HO_5 := n0_
         have HO_6 := n1_
         have BK351 := n2_
         have BK359 := n3_
         have HB := n4_
         clear n0_ n1_ n2_ n3_ n4_
         replace HO_5 := Aside0.mk (Kd.R_drew HO_5.out)
         replace HO_6 := Aside0.mk (Kd.R_drew HO_6.out)
         replace BK351 := Aside0.mk (blk_drew BK351.out)
         replace BK359 := Aside0.mk (blk_drew BK359.out)
         replace HB := Aside0.mk (below_drew1 HB.out)
         refine start_ (n := 6) (S := fun w' => w'.cell? ⟨gb359, 0, none⟩ = some (.int .i64 t385) ∧ w'.cell? ⟨gb359, 1, none⟩ = some (.int .i64 t386)) (ds := [5]) #[false, false, false, false, false, false] Z5 rfl rfl ⟨(blk_cell BK359.out 0).trans rfl, (blk_cell BK359.out 1).trans rfl⟩ (fun hHeld => ?_)
         generalize w92.drew = w93 at HO_5 HO_6 BK351 BK359 HB hHeld ⊢
         refine pU 1 155 (hc := Z5) (h := ?_)
         refine pU 2 156 (hc := Z5) (h := ?_)
         refine take_ (i := 0) (N := some 154) (v := ?_) (a' := ?_) #[true, true, true, false, false, false] rfl rfl Z5 (fun _ _ _ h => h) (Or.inl ⟨Z67, ?_⟩) hHeld ?_ ?_
         rotate_left
         ·rintro w' ⟨s0, s1⟩
          go_simp
          with_reducible rfl
         rotate_left
         ·simp only [Act.put, List.setIfInBounds_toArray, List.set_cons_zero, List.set_cons_succ, i64_w, i32_w]
          rfl
         refine oN 3 (some 157) (hc := Z5) (h := fun K hK => ?_)
         refine gS Try.func56 (quoinref26_float.calls A73.out) (h := ?_)
         rintro w94 hb
         replace HO_5 := Aside0.mk (Kd.R_below (kK HO_5) hb)
         replace HO_6 := Aside0.mk (Kd.R_below (kK HO_6) hb)
         replace BK351 := Aside0.mk (blk_below (g := gb351) (o := .cells #[.int .i64 0, .int .i64 0] 55 (0, 0)) (bK BK351) hb)
         replace BK359 := Aside0.mk (blk_below (g := gb359) (o := .cells #[.int .i64 t385, .int .i64 t386] 55 (0, 0)) (bK BK359) hb)
         replace HB := Aside0.mk (below_step zB hb)
         (try clear hb)
         (try clear hb2)
         (try clear hk)
         (try clear hi)
         refine hK.out _ _ ⟨(blk_cell BK359.out 0).trans rfl, (blk_cell BK359.out 1).trans rfl⟩ (fun hHeld => ?_)
         clear hK K
         refine nO 157 (h := ?_)
         refine oN 4 (some 158) (hc := Z5) (h := fun K hK => ?_)
         refine gS Try.func51 (quoinref26_best_with.calls A74.out) (h := ?_)
         rintro w95 hb
         replace HO_5 := Aside0.mk (Kd.R_below (kK HO_5) hb)
         replace HO_6 := Aside0.mk (Kd.R_below (kK HO_6) hb)
         replace BK351 := Aside0.mk (blk_below (g := gb351) (o := .cells #[.int .i64 0, .int .i64 0] 55 (0, 0)) (bK BK351) hb)
         replace BK359 := Aside0.mk (blk_below (g := gb359) (o := .cells #[.int .i64 t385, .int .i64 t386] 55 (0, 0)) (bK BK359) hb)
         replace HB := Aside0.mk (below_step zB hb)
         (try clear hb)
         (try clear hb2)
         (try clear hk)
         (try clear hi)
         refine hK.out _ _ ⟨(blk_cell BK359.out 0).trans rfl, (blk_cell BK359.out 1).trans rfl⟩ (fun hHeld => ?_)
         clear hK K
         refine nO 158 (h := ?_)
         refine last_ (i := 5) (N := none) #[true, true, true, true, true, true] rfl rfl Z5 Z43 (fun K hK => ?_)
         have hs96 := bC BK359 0 (.int .i64 t385)
         have hfs96 := blk_frozen BK359.out 0
         have hns96_0 := NB351_359.out
         have hms96_0 := NB359_351.out
         have hs97 := bC BK359 1 (.int .i64 t386)
         have hfs97 := blk_frozen BK359.out 1
         have hns97_0 := NB351_359.out
         have hms97_0 := NB359_351.out
         refine skip_ (w1 := ?_) Z67 rfl ?_ ?_
         rotate_left
         ·go_simp
          rfl
         refine hK.out _ _ ?_
         clear hK K
         refine done_ Z5 ?_
         try go_wp2
         have n0_ : Aside0 (Kd.R Kd.string 9 ((w95.setCell ⟨gb359, 0, none⟩ (.int .i64 t388)).setCell ⟨gb359, 1, none⟩ (.int .i64 t389)) w.heap.size (fun k_ => some k_ ≠ (.slice Ao12 t355.length co12 : Value).ownBlock) (.slice Ao11 t352.length co11) t352) := ⟨by (with_reducible repeat (first | apply Kd.R_alloc | apply Kd.R_drewN | apply Kd.R_drew)); exact Kd.R_mono (Kd.R_far (p := ⟨gb359, 1, none⟩) (Kd.R_far (p := ⟨gb359, 0, none⟩) (Kd.R_types HO_5.out BK359.out Z43) (fun _ hk => hk.2) (.int .i64 t388)) (fun _ hk => hk.2) (.int .i64 t389)) (fun _ hk => hk.1)⟩
         have n1_ : Aside0 (Kd.R Kd.string 9 ((w95.setCell ⟨gb359, 0, none⟩ (.int .i64 t388)).setCell ⟨gb359, 1, none⟩ (.int .i64 t389)) w.heap.size (fun k_ => some k_ ≠ (.slice Ao11 t352.length co11 : Value).ownBlock) (.slice Ao12 t355.length co12) t355) := ⟨by (with_reducible repeat (first | apply Kd.R_alloc | apply Kd.R_drewN | apply Kd.R_drew)); exact Kd.R_mono (Kd.R_far (p := ⟨gb359, 1, none⟩) (Kd.R_far (p := ⟨gb359, 0, none⟩) (Kd.R_types HO_6.out BK359.out Z43) (fun _ hk => hk.2) (.int .i64 t388)) (fun _ hk => hk.2) (.int .i64 t389)) (fun _ hk => hk.1)⟩
         have n2_ : Aside0 (((w95.setCell ⟨gb359, 0, none⟩ (.int .i64 t388)).setCell ⟨gb359, 1, none⟩ (.int .i64 t389)).heap[gb351]? = some (.cells #[.int .i64 0, .int .i64 0] 55 (0, 0))) := ⟨Z6⟩
         have n3_ : Aside0 (((w95.setCell ⟨gb359, 0, none⟩ (.int .i64 t388)).setCell ⟨gb359, 1, none⟩ (.int .i64 t389)).heap[gb359]? = some (.cells #[.int .i64 t388, .int .i64 t389] 55 (0, 0))) := ⟨by (with_reducible repeat (first | refine blk_drewN ?_ _ | refine blk_drew ?_ | refine blk_alloc ?_ _)); refine blk_put (cs := #[.int .i64 t388, .int .i64 t386]) ?_ 1 _ rfl; (with_reducible repeat (first | refine blk_drewN ?_ _ | refine blk_drew ?_ | refine blk_alloc ?_ _)); refine blk_put (cs := #[.int .i64 t385, .int .i64 t386]) ?_ 0 _ rfl; (with_reducible repeat (first | refine blk_drewN ?_ _ | refine blk_drew ?_ | refine blk_alloc ?_ _)); exact BK359.out⟩
         have n4_ : Aside0 (Below w.heap.size w ((w95.setCell ⟨gb359, 0, none⟩ (.int .i64 t388)).setCell ⟨gb359, 1, none⟩ (.int .i64 t389))) := ⟨Z0⟩
         (try clear HO_5)
         (try clear HO_6)
         (try clear BK351)
         (try clear BK359)
         (try clear HB)
         generalize ((w95.setCell ⟨gb359, 0, none⟩ (.int .i64 t388)).setCell ⟨gb359, 1, none⟩ (.int .i64 t389)) = w98 at n0_ n1_ n2_ n3_ n4_ ⊢
         have HO_5 := n0_
         have HO_6 := n1_
         have BK351 := n2_
         have BK359 := n3_
         have HB := n4_
         clear n0_ n1_ n2_ n3_ n4_
         replace HO_5 := Aside0.mk (Kd.R_drew HO_5.out)
         replace HO_6 := Aside0.mk (Kd.R_drew HO_6.out)
         replace BK351 := Aside0.mk (blk_drew BK351.out)
         replace BK359 := Aside0.mk (blk_drew BK359.out)
         replace HB := Aside0.mk (below_drew1 HB.out)
         refine start_ (n := 6) (S := fun w' => w'.cell? ⟨gb359, 0, none⟩ = some (.int .i64 t388) ∧ w'.cell? ⟨gb359, 1, none⟩ = some (.int .i64 t389)) (ds := [5]) #[false, false, false, false, false, false] Z5 rfl rfl ⟨(blk_cell BK359.out 0).trans rfl, (blk_cell BK359.out 1).trans rfl⟩ (fun hHeld => ?_)
         generalize w98.drew = w99 at HO_5 HO_6 BK351 BK359 HB hHeld ⊢
         refine pU 1 160 (hc := Z5) (h := ?_)
         refine pU 2 161 (hc := Z5) (h := ?_)
         refine take_ (i := 0) (N := some 159) (v := ?_) (a' := ?_) #[true, true, true, false, false, false] rfl rfl Z5 (fun _ _ _ h => h) (Or.inl ⟨Z67, ?_⟩) hHeld ?_ ?_
         rotate_left
         ·rintro w' ⟨s0, s1⟩
          go_simp
          with_reducible rfl
         rotate_left
         ·simp only [Act.put, List.setIfInBounds_toArray, List.set_cons_zero, List.set_cons_succ, i64_w, i32_w]
          rfl
         refine oN 3 (some 162) (hc := Z5) (h := fun K hK => ?_)
         refine gS Try.func57 (quoinref26_imag.calls A75.out) (h := ?_)
         rintro w100 hb
         replace HO_5 := Aside0.mk (Kd.R_below (kK HO_5) hb)
         replace HO_6 := Aside0.mk (Kd.R_below (kK HO_6) hb)
         replace BK351 := Aside0.mk (blk_below (g := gb351) (o := .cells #[.int .i64 0, .int .i64 0] 55 (0, 0)) (bK BK351) hb)
         replace BK359 := Aside0.mk (blk_below (g := gb359) (o := .cells #[.int .i64 t388, .int .i64 t389] 55 (0, 0)) (bK BK359) hb)
         replace HB := Aside0.mk (below_step zB hb)
         (try clear hb)
         (try clear hb2)
         (try clear hk)
         (try clear hi)
         refine hK.out _ _ ⟨(blk_cell BK359.out 0).trans rfl, (blk_cell BK359.out 1).trans rfl⟩ (fun hHeld => ?_)
         clear hK K
         refine nO 162 (h := ?_)
         refine oN 4 (some 163) (hc := Z5) (h := fun K hK => ?_)
         refine gS Try.func51 (quoinref26_best_with.calls A76.out) (h := ?_)
         rintro w101 hb
         replace HO_5 := Aside0.mk (Kd.R_below (kK HO_5) hb)
         replace HO_6 := Aside0.mk (Kd.R_below (kK HO_6) hb)
         replace BK351 := Aside0.mk (blk_below (g := gb351) (o := .cells #[.int .i64 0, .int .i64 0] 55 (0, 0)) (bK BK351) hb)
         replace BK359 := Aside0.mk (blk_below (g := gb359) (o := .cells #[.int .i64 t388, .int .i64 t389] 55 (0, 0)) (bK BK359) hb)
         replace HB := Aside0.mk (below_step zB hb)
         (try clear hb)
         (try clear hb2)
         (try clear hk)
         (try clear hi)
         refine hK.out _ _ ⟨(blk_cell BK359.out 0).trans rfl, (blk_cell BK359.out 1).trans rfl⟩ (fun hHeld => ?_)
         clear hK K
         refine nO 163 (h := ?_)
         refine last_ (i := 5) (N := none) #[true, true, true, true, true, true] rfl rfl Z5 Z43 (fun K hK => ?_)
         have hs102 := bC BK359 0 (.int .i64 t388)
         have hfs102 := blk_frozen BK359.out 0
         have hns102_0 := NB351_359.out
         have hms102_0 := NB359_351.out
         have hs103 := bC BK359 1 (.int .i64 t389)
         have hfs103 := blk_frozen BK359.out 1
         have hns103_0 := NB351_359.out
         have hms103_0 := NB359_351.out
         refine skip_ (w1 := ?_) Z67 rfl ?_ ?_
         rotate_left
         ·go_simp
          rfl
         refine hK.out _ _ ?_
         clear hK K
         refine done_ Z5 ?_
         try go_wp2
         have n0_ : Aside0 (Kd.R Kd.string 9 ((w101.setCell ⟨gb359, 0, none⟩ (.int .i64 t391)).setCell ⟨gb359, 1, none⟩ (.int .i64 t392)) w.heap.size (fun k_ => some k_ ≠ (.slice Ao12 t355.length co12 : Value).ownBlock) (.slice Ao11 t352.length co11) t352) := ⟨by (with_reducible repeat (first | apply Kd.R_alloc | apply Kd.R_drewN | apply Kd.R_drew)); exact Kd.R_mono (Kd.R_far (p := ⟨gb359, 1, none⟩) (Kd.R_far (p := ⟨gb359, 0, none⟩) (Kd.R_types HO_5.out BK359.out Z43) (fun _ hk => hk.2) (.int .i64 t391)) (fun _ hk => hk.2) (.int .i64 t392)) (fun _ hk => hk.1)⟩
         have n1_ : Aside0 (Kd.R Kd.string 9 ((w101.setCell ⟨gb359, 0, none⟩ (.int .i64 t391)).setCell ⟨gb359, 1, none⟩ (.int .i64 t392)) w.heap.size (fun k_ => some k_ ≠ (.slice Ao11 t352.length co11 : Value).ownBlock) (.slice Ao12 t355.length co12) t355) := ⟨by (with_reducible repeat (first | apply Kd.R_alloc | apply Kd.R_drewN | apply Kd.R_drew)); exact Kd.R_mono (Kd.R_far (p := ⟨gb359, 1, none⟩) (Kd.R_far (p := ⟨gb359, 0, none⟩) (Kd.R_types HO_6.out BK359.out Z43) (fun _ hk => hk.2) (.int .i64 t391)) (fun _ hk => hk.2) (.int .i64 t392)) (fun _ hk => hk.1)⟩
         have n2_ : Aside0 (((w101.setCell ⟨gb359, 0, none⟩ (.int .i64 t391)).setCell ⟨gb359, 1, none⟩ (.int .i64 t392)).heap[gb351]? = some (.cells #[.int .i64 0, .int .i64 0] 55 (0, 0))) := ⟨Z6⟩
         have n3_ : Aside0 (((w101.setCell ⟨gb359, 0, none⟩ (.int .i64 t391)).setCell ⟨gb359, 1, none⟩ (.int .i64 t392)).heap[gb359]? = some (.cells #[.int .i64 t391, .int .i64 t392] 55 (0, 0))) := ⟨by (with_reducible repeat (first | refine blk_drewN ?_ _ | refine blk_drew ?_ | refine blk_alloc ?_ _)); refine blk_put (cs := #[.int .i64 t391, .int .i64 t389]) ?_ 1 _ rfl; (with_reducible repeat (first | refine blk_drewN ?_ _ | refine blk_drew ?_ | refine blk_alloc ?_ _)); refine blk_put (cs := #[.int .i64 t388, .int .i64 t389]) ?_ 0 _ rfl; (with_reducible repeat (first | refine blk_drewN ?_ _ | refine blk_drew ?_ | refine blk_alloc ?_ _)); exact BK359.out⟩
         have n4_ : Aside0 (Below w.heap.size w ((w101.setCell ⟨gb359, 0, none⟩ (.int .i64 t391)).setCell ⟨gb359, 1, none⟩ (.int .i64 t392))) := ⟨Z0⟩
         (try clear HO_5)
         (try clear HO_6)
         (try clear BK351)
         (try clear BK359)
         (try clear HB)
         generalize ((w101.setCell ⟨gb359, 0, none⟩ (.int .i64 t391)).setCell ⟨gb359, 1, none⟩ (.int .i64 t392)) = w104 at n0_ n1_ n2_ n3_ n4_ ⊢
         have HO_5 := n0_
         have HO_6 := n1_
         have BK351 := n2_
         have BK359 := n3_
         have HB := n4_
         clear n0_ n1_ n2_ n3_ n4_
         replace HO_5 := Aside0.mk (Kd.R_drew HO_5.out)
         replace HO_6 := Aside0.mk (Kd.R_drew HO_6.out)
         replace BK351 := Aside0.mk (blk_drew BK351.out)
         replace BK359 := Aside0.mk (blk_drew BK359.out)
         replace HB := Aside0.mk (below_drew1 HB.out)
         refine start_ (n := 6) (S := fun w' => w'.cell? ⟨gb359, 0, none⟩ = some (.int .i64 t391) ∧ w'.cell? ⟨gb359, 1, none⟩ = some (.int .i64 t392)) (ds := [5]) #[false, false, false, false, false, false] Z5 rfl rfl ⟨(blk_cell BK359.out 0).trans rfl, (blk_cell BK359.out 1).trans rfl⟩ (fun hHeld => ?_)
         generalize w104.drew = w105 at HO_5 HO_6 BK351 BK359 HB hHeld ⊢
         refine pU 1 165 (hc := Z5) (h := ?_)
         refine pU 2 166 (hc := Z5) (h := ?_)
         refine take_ (i := 0) (N := some 164) (v := ?_) (a' := ?_) #[true, true, true, false, false, false] rfl rfl Z5 (fun _ _ _ h => h) (Or.inl ⟨Z67, ?_⟩) hHeld ?_ ?_
         rotate_left
         ·rintro w' ⟨s0, s1⟩
          go_simp
          with_reducible rfl
         rotate_left
         ·simp only [Act.put, List.setIfInBounds_toArray, List.set_cons_zero, List.set_cons_succ, i64_w, i32_w]
          rfl
         refine oN 3 (some 167) (hc := Z5) (h := fun K hK => ?_)
         refine gS Try.func58 (quoinref26_char.calls A77.out) (h := ?_)
         rintro w106 hb
         replace HO_5 := Aside0.mk (Kd.R_below (kK HO_5) hb)
         replace HO_6 := Aside0.mk (Kd.R_below (kK HO_6) hb)
         replace BK351 := Aside0.mk (blk_below (g := gb351) (o := .cells #[.int .i64 0, .int .i64 0] 55 (0, 0)) (bK BK351) hb)
         replace BK359 := Aside0.mk (blk_below (g := gb359) (o := .cells #[.int .i64 t391, .int .i64 t392] 55 (0, 0)) (bK BK359) hb)
         replace HB := Aside0.mk (below_step zB hb)
         (try clear hb)
         (try clear hb2)
         (try clear hk)
         (try clear hi)
         refine hK.out _ _ ⟨(blk_cell BK359.out 0).trans rfl, (blk_cell BK359.out 1).trans rfl⟩ (fun hHeld => ?_)
         clear hK K
         refine nO 167 (h := ?_)
         refine oN 4 (some 168) (hc := Z5) (h := fun K hK => ?_)
         refine gS Try.func51 (quoinref26_best_with.calls A78.out) (h := ?_)
         rintro w107 hb
         replace HO_5 := Aside0.mk (Kd.R_below (kK HO_5) hb)
         replace HO_6 := Aside0.mk (Kd.R_below (kK HO_6) hb)
         replace BK351 := Aside0.mk (blk_below (g := gb351) (o := .cells #[.int .i64 0, .int .i64 0] 55 (0, 0)) (bK BK351) hb)
         replace BK359 := Aside0.mk (blk_below (g := gb359) (o := .cells #[.int .i64 t391, .int .i64 t392] 55 (0, 0)) (bK BK359) hb)
         replace HB := Aside0.mk (below_step zB hb)
         (try clear hb)
         (try clear hb2)
         (try clear hk)
         (try clear hi)
         refine hK.out _ _ ⟨(blk_cell BK359.out 0).trans rfl, (blk_cell BK359.out 1).trans rfl⟩ (fun hHeld => ?_)
         clear hK K
         refine nO 168 (h := ?_)
         refine last_ (i := 5) (N := none) #[true, true, true, true, true, true] rfl rfl Z5 Z43 (fun K hK => ?_)
         have hs108 := bC BK359 0 (.int .i64 t391)
         have hfs108 := blk_frozen BK359.out 0
         have hns108_0 := NB351_359.out
         have hms108_0 := NB359_351.out
         have hs109 := bC BK359 1 (.int .i64 t392)
         have hfs109 := blk_frozen BK359.out 1
         have hns109_0 := NB351_359.out
         have hms109_0 := NB359_351.out
         refine skip_ (w1 := ?_) Z67 rfl ?_ ?_
         rotate_left
         ·go_simp
          rfl
         refine hK.out _ _ ?_
         clear hK K
         refine done_ Z5 ?_
         try go_wp2
         have n0_ : Aside0 (Kd.R Kd.string 9 ((w107.setCell ⟨gb359, 0, none⟩ (.int .i64 t394)).setCell ⟨gb359, 1, none⟩ (.int .i64 t395)) w.heap.size (fun k_ => some k_ ≠ (.slice Ao12 t355.length co12 : Value).ownBlock) (.slice Ao11 t352.length co11) t352) := ⟨by (with_reducible repeat (first | apply Kd.R_alloc | apply Kd.R_drewN | apply Kd.R_drew)); exact Kd.R_mono (Kd.R_far (p := ⟨gb359, 1, none⟩) (Kd.R_far (p := ⟨gb359, 0, none⟩) (Kd.R_types HO_5.out BK359.out Z43) (fun _ hk => hk.2) (.int .i64 t394)) (fun _ hk => hk.2) (.int .i64 t395)) (fun _ hk => hk.1)⟩
         have n1_ : Aside0 (Kd.R Kd.string 9 ((w107.setCell ⟨gb359, 0, none⟩ (.int .i64 t394)).setCell ⟨gb359, 1, none⟩ (.int .i64 t395)) w.heap.size (fun k_ => some k_ ≠ (.slice Ao11 t352.length co11 : Value).ownBlock) (.slice Ao12 t355.length co12) t355) := ⟨by (with_reducible repeat (first | apply Kd.R_alloc | apply Kd.R_drewN | apply Kd.R_drew)); exact Kd.R_mono (Kd.R_far (p := ⟨gb359, 1, none⟩) (Kd.R_far (p := ⟨gb359, 0, none⟩) (Kd.R_types HO_6.out BK359.out Z43) (fun _ hk => hk.2) (.int .i64 t394)) (fun _ hk => hk.2) (.int .i64 t395)) (fun _ hk => hk.1)⟩
         have n2_ : Aside0 (((w107.setCell ⟨gb359, 0, none⟩ (.int .i64 t394)).setCell ⟨gb359, 1, none⟩ (.int .i64 t395)).heap[gb351]? = some (.cells #[.int .i64 0, .int .i64 0] 55 (0, 0))) := ⟨Z6⟩
         have n3_ : Aside0 (((w107.setCell ⟨gb359, 0, none⟩ (.int .i64 t394)).setCell ⟨gb359, 1, none⟩ (.int .i64 t395)).heap[gb359]? = some (.cells #[.int .i64 t394, .int .i64 t395] 55 (0, 0))) := ⟨by (with_reducible repeat (first | refine blk_drewN ?_ _ | refine blk_drew ?_ | refine blk_alloc ?_ _)); refine blk_put (cs := #[.int .i64 t394, .int .i64 t392]) ?_ 1 _ rfl; (with_reducible repeat (first | refine blk_drewN ?_ _ | refine blk_drew ?_ | refine blk_alloc ?_ _)); refine blk_put (cs := #[.int .i64 t391, .int .i64 t392]) ?_ 0 _ rfl; (with_reducible repeat (first | refine blk_drewN ?_ _ | refine blk_drew ?_ | refine blk_alloc ?_ _)); exact BK359.out⟩
         have n4_ : Aside0 (Below w.heap.size w ((w107.setCell ⟨gb359, 0, none⟩ (.int .i64 t394)).setCell ⟨gb359, 1, none⟩ (.int .i64 t395))) := ⟨Z0⟩
         (try clear HO_5)
         (try clear HO_6)
         (try clear BK351)
         (try clear BK359)
         (try clear HB)
         generalize ((w107.setCell ⟨gb359, 0, none⟩ (.int .i64 t394)).setCell ⟨gb359, 1, none⟩ (.int .i64 t395)) = w110 at n0_ n1_ n2_ n3_ n4_ ⊢
         have HO_5 := n0_
         have HO_6 := n1_
         have BK351 := n2_
         have BK359 := n3_
         have HB := n4_
         clear n0_ n1_ n2_ n3_ n4_
         replace HO_5 := Aside0.mk (Kd.R_drew HO_5.out)
         replace HO_6 := Aside0.mk (Kd.R_drew HO_6.out)
         replace BK351 := Aside0.mk (blk_drew BK351.out)
         replace BK359 := Aside0.mk (blk_drew BK359.out)
         replace HB := Aside0.mk (below_drew1 HB.out)
         refine start_ (n := 6) (S := fun w' => w'.cell? ⟨gb359, 0, none⟩ = some (.int .i64 t394) ∧ w'.cell? ⟨gb359, 1, none⟩ = some (.int .i64 t395)) (ds := []) #[false, false, false, false, false, false] Z5 rfl rfl ⟨(blk_cell BK359.out 0).trans rfl, (blk_cell BK359.out 1).trans rfl⟩ (fun hHeld => ?_)
         generalize w110.drew = w111 at HO_5 HO_6 BK351 BK359 HB hHeld ⊢
         refine pU 1 170 (hc := Z5) (h := ?_)
         refine pU 2 171 (hc := Z5) (h := ?_)
         refine take_ (i := 0) (N := some 169) (v := ?_) (a' := ?_) #[true, true, true, false, false, false] rfl rfl Z5 (fun _ _ _ h => h) (Or.inl ⟨Z67, ?_⟩) hHeld ?_ ?_
         rotate_left
         ·rintro w' ⟨s0, s1⟩
          go_simp
          with_reducible rfl
         rotate_left
         ·simp only [Act.put, List.setIfInBounds_toArray, List.set_cons_zero, List.set_cons_succ, i64_w, i32_w]
          rfl
         refine oN 3 (some 172) (hc := Z5) (h := fun K hK => ?_)
         refine gS Try.func59 (quoinref26_quoted.calls A79.out) (h := ?_)
         rintro w112 hb
         replace HO_5 := Aside0.mk (Kd.R_below (kK HO_5) hb)
         replace HO_6 := Aside0.mk (Kd.R_below (kK HO_6) hb)
         replace BK351 := Aside0.mk (blk_below (g := gb351) (o := .cells #[.int .i64 0, .int .i64 0] 55 (0, 0)) (bK BK351) hb)
         replace BK359 := Aside0.mk (blk_below (g := gb359) (o := .cells #[.int .i64 t394, .int .i64 t395] 55 (0, 0)) (bK BK359) hb)
         replace HB := Aside0.mk (below_step zB hb)
         (try clear hb)
         (try clear hb2)
         (try clear hk)
         (try clear hi)
         refine hK.out _ _ ⟨(blk_cell BK359.out 0).trans rfl, (blk_cell BK359.out 1).trans rfl⟩ (fun hHeld => ?_)
         clear hK K
         refine nO 172 (h := ?_)
         refine oN 4 (some 173) (hc := Z5) (h := fun K hK => ?_)
         refine gS Try.func51 (quoinref26_best_with.calls A80.out) (h := ?_)
         rintro w113 hb
         replace HO_5 := Aside0.mk (Kd.R_below (kK HO_5) hb)
         replace HO_6 := Aside0.mk (Kd.R_below (kK HO_6) hb)
         replace BK351 := Aside0.mk (blk_below (g := gb351) (o := .cells #[.int .i64 0, .int .i64 0] 55 (0, 0)) (bK BK351) hb)
         replace BK359 := Aside0.mk (blk_below (g := gb359) (o := .cells #[.int .i64 t394, .int .i64 t395] 55 (0, 0)) (bK BK359) hb)
         replace HB := Aside0.mk (below_step zB hb)
         (try clear hb)
         (try clear hb2)
         (try clear hk)
         (try clear hi)
         refine hK.out _ _ ⟨(blk_cell BK359.out 0).trans rfl, (blk_cell BK359.out 1).trans rfl⟩ (fun hHeld => ?_)
         clear hK K
         refine nO 173 (h := ?_)
         refine oN 5 (none) (hc := Z5) (h := fun K hK => ?_)
         have hs114 := bC BK351 0 (.int .i64 0)
         have hfs114 := blk_frozen BK351.out 0
         have hns114_1 := NB359_351.out
         have hms114_1 := NB351_359.out
         have hs115 := bC BK351 1 (.int .i64 0)
         have hfs115 := blk_frozen BK351.out 1
         have hns115_1 := NB359_351.out
         have hms115_1 := NB351_359.out
         refine skip_ (w1 := ?_) Z67 rfl ?_ ?_
         rotate_left
         ·go_simp
          rfl
         refine hK.out _ _ ⟨((cell_far (p := ⟨gb351, _, none⟩) NB359_351.out _).trans (((cell_far (p := ⟨gb351, _, none⟩) NB359_351.out _).trans (hHeld.1)))), ((cell_far (p := ⟨gb351, _, none⟩) NB359_351.out _).trans (((cell_far (p := ⟨gb351, _, none⟩) NB359_351.out _).trans (hHeld.2))))⟩ (fun hHeld => ?_)
         clear hK K
         refine done_ Z5 ?_
         try go_wp2
         refine bodyPost_ret (results_cell_row rfl _ _ gb351 55 #[.int .i64 t397, .int .i64 t398] (0, 0) _ rfl (by (with_reducible repeat (first | refine blk_drewN ?_ _ | refine blk_drew ?_ | refine blk_alloc ?_ _)); refine blk_put (cs := #[.int .i64 t397, .int .i64 0]) ?_ 1 _ rfl; (with_reducible repeat (first | refine blk_drewN ?_ _ | refine blk_drew ?_ | refine blk_alloc ?_ _)); refine blk_put (cs := #[.int .i64 0, .int .i64 0]) ?_ 0 _ rfl; (with_reducible repeat (first | refine blk_drewN ?_ _ | refine blk_drew ?_ | refine blk_alloc ?_ _)); exact BK351.out) Try.underlying55 rfl Z5) rfl ?_
         exact ⟨Z2, Z0⟩
end Go.Proofs.Ytcajiapjdlphmaa.H
