import Derived.Test.YtcajiapjdlphmaaEPre
import Derived.Test.YtcajiapjdlphmaaEabcdefx0
namespace Go.Proofs.Ytcajiapjdlphmaa.H
open Go.RowKit Go.Proofs.YtcajiapjdlphmaaW.PrintWords Go.Proofs.YtcajiapjdlphmaaW.PrintLast Go.Proofs.YtcajiapjdlphmaaW.PrintMore
attribute [local go_sem] max2_int min2_int max_two min_two max_three min_three max_four min_four
set_option linter.unusedVariables false
set_option linter.unusedSimpArgs false
mutual
def goscan_Kinds.l0 : Nat → List ByteArray → List (S69) → Int → Int → Option (List ByteArray)
 | 0, _, _, _, _ => none
 | k + 1, x1, x7, x8, x9 => if x9 < x8 then (if 0 ≤ x9 then (if x9 < (x7.length : Int) then (if x1.length < 8796093022208 then (goscan_Kinds.l0 k (x1 ++ [(rd_T69 x7 x9).f0]) x7 x8 (wrap64 (x9 + 1))) else (none)) else (none)) else (none)) else ((goscan_keywords.f).bind fun t428 => (goscan_Kinds.l1 k x1 t428 (t428.length : Int) 0))
def goscan_Kinds.l1 : Nat → List ByteArray → List ByteArray → Int → Int → Option (List ByteArray)
 | 0, _, _, _, _ => none
 | k + 1, x1, x19, x20, x21 => if x21 < x20 then (if 0 ≤ x21 then (if x21 < (x19.length : Int) then (if 1 + (rdOf ByteArray.empty x19 x21).size ≤ 9223372036854775807 then (if x1.length < 8796093022208 then (goscan_Kinds.l1 k (x1 ++ [(⟨#[107]⟩ : ByteArray) ++ (rdOf ByteArray.empty x19 x21)]) x19 x20 (wrap64 (x21 + 1))) else (none)) else (none)) else (none)) else (none)) else ((some (([(⟨#[110, 101, 119, 108, 105, 110, 101]⟩ : ByteArray), (⟨#[114, 101, 109, 97, 114, 107]⟩ : ByteArray), (⟨#[99, 111, 109, 109, 101, 110, 116]⟩ : ByteArray)] : List ByteArray) : List ByteArray)).bind fun y435 => (if x1.length + y435.length < 8796093022208 then (some (x1 ++ y435)) else (none)))
end
def goscan_Kinds.f (k : Nat)  : Option (List ByteArray) := (goscan_operators.f).bind fun t420 => (goscan_Kinds.l0 k (([(⟨#[101, 110, 100]⟩ : ByteArray), (⟨#[101, 114, 114, 111, 114]⟩ : ByteArray), (⟨#[105, 100, 101, 110, 116]⟩ : ByteArray), (⟨#[105, 110, 116]⟩ : ByteArray), (⟨#[102, 108, 111, 97, 116]⟩ : ByteArray), (⟨#[105, 109, 97, 103]⟩ : ByteArray), (⟨#[99, 104, 97, 114]⟩ : ByteArray), (⟨#[115, 116, 114, 105, 110, 103]⟩ : ByteArray)] : List ByteArray)) t420 (t420.length : Int) 0)
theorem goscan_Kinds.mono_l : ∀ k, (∀ y0 y1 y2 y3, LeO (goscan_Kinds.l0 k y0 y1 y2 y3) (goscan_Kinds.l0 (k + 1) y0 y1 y2 y3)) ∧ (∀ y0 y1 y2 y3, LeO (goscan_Kinds.l1 k y0 y1 y2 y3) (goscan_Kinds.l1 (k + 1) y0 y1 y2 y3))
 | 0 => ⟨fun _ _ _ _ r h => by simp [goscan_Kinds.l0] at h, fun _ _ _ _ r h => by simp [goscan_Kinds.l1] at h⟩
 | k + 1 => by
  obtain ⟨ih0, ih1⟩ := goscan_Kinds.mono_l k
  refine ⟨?_, ?_⟩
  ·intro y0 y1 y2 y3
   unfold goscan_Kinds.l0
   exact mO
  ·intro y0 y1 y2 y3
   unfold goscan_Kinds.l1
   exact mO
theorem goscan_Kinds.mono : ∀ k, LeO (goscan_Kinds.f k ) (goscan_Kinds.f (k + 1) ) := by
 intro  k
 obtain ⟨ih0, ih1⟩ := goscan_Kinds.mono_l k
 unfold goscan_Kinds.f
 exact mO
set_option maxHeartbeats 8000000 in
set_option maxRecDepth 100000 in
theorem goscan_Kinds.calls {k : Nat} {r : List ByteArray} {w : World} (h : goscan_Kinds.f k  = some r) :
  Calls Try.prog 26 #[] w fun e w' => ∃ v0_ : Value, e = .returned (v0_) ∧ Kd.R Kd.string 9 w' w.heap.size (fun _ => True) v0_ r ∧ Below w.heap.size w w' := by
 have hu69 := Try.underlying69
 have HB := Aside0.mk (Below.refl w.heap.size w)
 have H : ((goscan_operators.f).bind fun t420 => (goscan_Kinds.l0 k (([(⟨#[101, 110, 100]⟩ : ByteArray), (⟨#[101, 114, 114, 111, 114]⟩ : ByteArray), (⟨#[105, 100, 101, 110, 116]⟩ : ByteArray), (⟨#[105, 110, 116]⟩ : ByteArray), (⟨#[102, 108, 111, 97, 116]⟩ : ByteArray), (⟨#[105, 109, 97, 103]⟩ : ByteArray), (⟨#[99, 104, 97, 114]⟩ : ByteArray), (⟨#[115, 116, 114, 105, 110, 103]⟩ : ByteArray)] : List ByteArray)) t420 (t420.length : Int) 0)) = some r := h
 clear h
 obtain ⟨y417, hy417⟩ : ∃ y_ : List ByteArray, y_ = (([(⟨#[101, 110, 100]⟩ : ByteArray), (⟨#[101, 114, 114, 111, 114]⟩ : ByteArray), (⟨#[105, 100, 101, 110, 116]⟩ : ByteArray), (⟨#[105, 110, 116]⟩ : ByteArray), (⟨#[102, 108, 111, 97, 116]⟩ : ByteArray), (⟨#[105, 109, 97, 103]⟩ : ByteArray), (⟨#[99, 104, 97, 114]⟩ : ByteArray), (⟨#[115, 116, 114, 105, 110, 103]⟩ : ByteArray)] : List ByteArray)) := ⟨_, rfl⟩
 replace H : ((goscan_operators.f).bind fun t420 => (goscan_Kinds.l0 k y417 t420 (t420.length : Int) 0)) = some r := by first | (rw [hy417]; with_reducible exact H) | (have H2_ := (Option.bind_some _ _).symm.trans H; rw [hy417]; with_reducible exact H2_) | (have H2_ := (Option.bind_some _ _).symm.trans H; with_reducible exact H2_) | with_reducible exact H | (rw [hy417]; exact H) | exact H
 have Ny417 := Aside0.mk hy417
 clear hy417
 replace H := bS H
 obtain ⟨t420, A1, H⟩ := H
 try dsimp only at H
 have H' := Aside0.mk H
 clear H
 go_enter Try.func26, Try.ntmps26
 go_wp2_with (first | ((with_reducible refine gate_dst (N := 6) rfl ?_); refine Kd.R_lit Kd.string _ 9 ?hg (N := 6) ?hd (xs := ([(⟨#[101, 110, 100]⟩ : ByteArray), (⟨#[101, 114, 114, 111, 114]⟩ : ByteArray), (⟨#[105, 100, 101, 110, 116]⟩ : ByteArray), (⟨#[105, 110, 116]⟩ : ByteArray), (⟨#[102, 108, 111, 97, 116]⟩ : ByteArray), (⟨#[105, 109, 97, 103]⟩ : ByteArray), (⟨#[99, 104, 97, 114]⟩ : ByteArray), (⟨#[115, 116, 114, 105, 110, 103]⟩ : ByteArray)] : List ByteArray)) (inner := [.string (⟨#[101, 110, 100]⟩ : ByteArray), .string (⟨#[101, 114, 114, 111, 114]⟩ : ByteArray), .string (⟨#[105, 100, 101, 110, 116]⟩ : ByteArray), .string (⟨#[105, 110, 116]⟩ : ByteArray), .string (⟨#[102, 108, 111, 97, 116]⟩ : ByteArray), .string (⟨#[105, 109, 97, 103]⟩ : ByteArray), .string (⟨#[99, 104, 97, 114]⟩ : ByteArray), .string (⟨#[115, 116, 114, 105, 110, 103]⟩ : ByteArray)]) (ok := fun _ => True) (okp := fun _ => True) ?hr ?hp (fun _ hk => hk) trivial (Below.refl _ _) (Nat.le_refl _) Z61 ?_; (case hd => rfl); (case hg => rfl); (case hr => first | (go_simp; done) | (go_simp; rfl)); (case hp => exact (Reps.one (show Kd.M Kd.string _ _ _ (⟨#[101, 110, 100]⟩ : ByteArray) [.string (⟨#[101, 110, 100]⟩ : ByteArray)] from rfl) (Reps.one (show Kd.M Kd.string _ _ _ (⟨#[101, 114, 114, 111, 114]⟩ : ByteArray) [.string (⟨#[101, 114, 114, 111, 114]⟩ : ByteArray)] from rfl) (Reps.one (show Kd.M Kd.string _ _ _ (⟨#[105, 100, 101, 110, 116]⟩ : ByteArray) [.string (⟨#[105, 100, 101, 110, 116]⟩ : ByteArray)] from rfl) (Reps.one (show Kd.M Kd.string _ _ _ (⟨#[105, 110, 116]⟩ : ByteArray) [.string (⟨#[105, 110, 116]⟩ : ByteArray)] from rfl) (Reps.one (show Kd.M Kd.string _ _ _ (⟨#[102, 108, 111, 97, 116]⟩ : ByteArray) [.string (⟨#[102, 108, 111, 97, 116]⟩ : ByteArray)] from rfl) (Reps.one (show Kd.M Kd.string _ _ _ (⟨#[105, 109, 97, 103]⟩ : ByteArray) [.string (⟨#[105, 109, 97, 103]⟩ : ByteArray)] from rfl) (Reps.one (show Kd.M Kd.string _ _ _ (⟨#[99, 104, 97, 114]⟩ : ByteArray) [.string (⟨#[99, 104, 97, 114]⟩ : ByteArray)] from rfl) (Reps.one (show Kd.M Kd.string _ _ _ (⟨#[115, 116, 114, 105, 110, 103]⟩ : ByteArray) [.string (⟨#[115, 116, 114, 105, 110, 103]⟩ : ByteArray)] from rfl) (Reps.none _ _)))))))))); intro v418 w2 ho3 hb hg_ hnew_; clear hg_ hnew_; (first | rw [← Ny417.out] at ho3 | (simp only [Int.reduceToNat] at ho3; rw [← Ny417.out] at ho3)); have HO419 := Aside0.mk (Kd.R_lower ho3 (below_size zB)); replace HB := Aside0.mk (below_step zB hb); clear hb ho3) | (refine gQ (some 7) Try.func44 (goscan_operators.calls A1.out) (h := ?_); rintro v421 w4 ⟨ho0, hb⟩; have HO422 := Aside0.mk (Kd.V_lower (Kd.V_mono (ok' := fun k_ => some k_ ≠ (v418 : Value).ownBlock) ho0 (fun k_ hk_ => (Kd.fresh' (Kd.R_lt (kK HO419)) k_ hk_))) (below_size zB)); replace HO419 := Aside0.mk (Kd.R_below (kK HO419) hb); replace HB := Aside0.mk (below_step zB hb); (try clear hb); (try clear hb2); (try clear hk); (try clear hi); (try clear ho0); obtain ⟨Ao5, co5, eo5⟩ := Kd.V_slice HO422.out; subst eo5))
 go_loopg [1, 9] k (fun kq v1 v9 w' => ∃ (x1_1 : List ByteArray) (x9_1 : Int), v9 = .int .i64 x9_1 ∧ Aside0 (goscan_Kinds.l0 kq x1_1 t420 (t420.length : Int) x9_1 = some r) ∧ Aside0 (kq ≤ k) ∧ Aside0 (Kd.R Kd.string 9 w' w.heap.size (fun _ => True) v1 x1_1) ∧ Aside0 (Kd.V k69 69 w' w.heap.size (fun k_ => some k_ ≠ (v1 : Value).ownBlock) (.slice Ao5 t420.length co5) t420) ∧ Aside0 (Below w.heap.size w w'))
 case atStart => exact ⟨(y417), (0), Z1, H', ⟨Nat.le_refl _⟩, ⟨by (with_reducible repeat (first | apply Kd.R_alloc | apply Kd.R_drewN | apply Kd.R_drew)); exact HO419.out⟩, ⟨by (with_reducible repeat (first | apply Kd.V_alloc | apply Kd.V_drewN | apply Kd.V_drew)); exact HO422.out⟩, ⟨Z0⟩⟩
 case round =>
  clear H'
  try clear c2
  try clear p2
  try clear c4
  obtain ⟨x1_1, x9_1, rfl, HA, HK1, HO_1, HO_7, HB⟩ := hrel
  cases gk with
  | zero => exact absurd HA.out (by simp [goscan_Kinds.l0])
  | succ k1 =>
   have H := HA.out
   clear HA
   simp only [goscan_Kinds.l0] at H
   by_cases c6 : x9_1 < (t420.length : Int)
   ·rw [if_pos c6] at H
    have c6b0 := decide_eq_true c6
    clear c6
    by_cases c7 : 0 ≤ x9_1
    ·rw [if_pos c7] at H
     have c7b0 := decide_eq_true c7
     clear c7
     by_cases c8 : x9_1 < (t420.length : Int)
     ·rw [if_pos c8] at H
      have c8b0 := decide_eq_true c8
      clear c8
      by_cases c9 : x1_1.length < 8796093022208
      ·rw [if_pos c9] at H
       have LMc9 := Aside0.mk c9
       clear c9
       obtain ⟨y425, hy425⟩ : ∃ y_ : List ByteArray, y_ = (x1_1 ++ [(rd_T69 t420 x9_1).f0]) := ⟨_, rfl⟩
       replace H : (goscan_Kinds.l0 k1 y425 t420 (t420.length : Int) (wrap64 (x9_1 + 1))) = some r := by first | (rw [hy425]; with_reducible exact H) | (have H2_ := (Option.bind_some _ _).symm.trans H; rw [hy425]; with_reducible exact H2_) | (have H2_ := (Option.bind_some _ _).symm.trans H; with_reducible exact H2_) | with_reducible exact H | (rw [hy425]; exact H) | exact H
       have Ny425 := Aside0.mk hy425
       clear hy425
       have H' := Aside0.mk H
       clear H
       have p423 : 0 ≤ (x9_1 : Int) := of_decide_eq_true Z3
       have q423 : x9_1 < (t420.length : Int) := of_decide_eq_true Z3
       obtain ⟨ad423, e423, hx423_0, hx423_1⟩ := at_T69 (Kd.V_reads' HO_7.out).2.2 x9_1 p423 q423
       cases e423
       replace p423 := eq_true p423
       replace q423 := eq_true q423
       go_wp2_with (first | ((with_reducible refine gate_dst (N := 3) rfl ?_); refine box_event ?hg (N := 3) ?hd (cs := #[.string (⟨#[]⟩ : ByteArray), .string (⟨#[]⟩ : ByteArray)]) (t := 69) ?hr ?_; (case hd => rfl); (case hg => rfl); (case hr => first | (go_simp; done) | (go_simp; rfl)); intro gb424 hg w10 hbox hb; have n0_ := Aside0.mk (Kd.R_below (kK HO_1) hb); have n1_ := Aside0.mk (Kd.V_below (Kd.V_elderB (by (with_reducible repeat (first | apply Kd.V_alloc | apply Kd.V_drewN | apply Kd.V_drew)); exact HO_7.out) gb424 (Nat.le_of_eq hg.symm)) hb); have n2_ := Aside0.mk (below_step zB hb); have n3_ := Aside0.mk (hbox); have n4_ := gE hg zB; have n5_ := gE hg zB; clear HO_1; clear HO_7; clear HB; have HO_1 := n0_; have HO_7 := n1_; have HB := n2_; have BK424 := n3_; have GW424 := n4_; have GE424 := n5_; clear n0_ n1_ n2_ n3_ n4_ n5_; clear hb hbox hg; have hcz11_0 := bC BK424 0 (.string (⟨#[]⟩ : ByteArray)); have hcz11_1 := bC BK424 1 (.string (⟨#[]⟩ : ByteArray)); have hfz11_0 := blk_frozen BK424.out 0; have hfz11_1 := blk_frozen BK424.out 1) | ((with_reducible refine gate_builtin (b := .append) (xs := #[.tmp 13, .tmp 16]) rfl ?_); at_builtin; refine Kd.R_append Kd.string (w0 := w) w.heap.size rfl (.tmp 13) (.tmp 16) 38 9 (.string ⟨#[]⟩) 16 rfl Try.underlying38 info9 rfl Z43 Z57 u1 x1_1 ((rd_T69 t420 x9_1).f0) [.string ((rd_T69 t420 x9_1).f0)] (fun _ => True) (fun _ => False) rfl (by first | (go_simp; done) | (go_simp; rfl)) ?aP (fun _ hk => hk.elim) ?aF ?aO ?aB ?aS ?aL ?_; (case aP => exact rfl); (case aB => exact zB); (case aF => exact (fun _ _ => trivial)); (case aO => exact (by (with_reducible repeat (first | apply Kd.R_alloc | apply Kd.R_drewN | apply Kd.R_drew)); exact Kd.R_mono (Kd.R_far (p := ⟨gb424, 1, none⟩) (Kd.R_far (p := ⟨gb424, 0, none⟩) (Kd.R_types HO_1.out BK424.out Z43) (fun _ hk => hk.2) (.string ((rd_T69 t420 x9_1).f0))) (fun _ hk => hk.2) (.string ((rd_T69 t420 x9_1).f1))) (fun _ hk => trivial))); (case aS => exact (below_size zB)); (case aL => have := LMc9.out; omega); intro v426 w12 ho hb hg hat; rw [← Ny425.out] at ho; have n0_ := Aside0.mk (Kd.V_afterv (ok := (fun k_ => k_ ≠ gb424)) (by (with_reducible repeat (first | apply Kd.V_alloc | apply Kd.V_drewN | apply Kd.V_drew)); exact Kd.V_mono (Kd.V_far (p := ⟨gb424, 1, none⟩) (Kd.V_far (p := ⟨gb424, 0, none⟩) (Kd.V_mono HO_7.out (fun k_ hk => (⟨hk, hk.2⟩ : _ ∧ k_ ≠ gb424))) (fun _ hk => hk.2) (.string ((rd_T69 t420 x9_1).f0))) (fun _ hk => hk.2) (.string ((rd_T69 t420 x9_1).f1))) (fun _ hk => ⟨hk.1.2, hk.1.1⟩)) hg hat); have n1_ := Aside0.mk (blk_grown (g := gb424) (o := .cells #[.string ((rd_T69 t420 x9_1).f0), .string ((rd_T69 t420 x9_1).f1)] 69 (0, 0)) (by (with_reducible repeat (first | refine blk_drewN ?_ _ | refine blk_drew ?_ | refine blk_alloc ?_ _)); refine blk_put (cs := #[.string ((rd_T69 t420 x9_1).f0), .string (⟨#[]⟩ : ByteArray)]) ?_ 1 _ rfl; (with_reducible repeat (first | refine blk_drewN ?_ _ | refine blk_drew ?_ | refine blk_alloc ?_ _)); refine blk_put (cs := #[.string (⟨#[]⟩ : ByteArray), .string (⟨#[]⟩ : ByteArray)]) ?_ 0 _ rfl; (with_reducible repeat (first | refine blk_drewN ?_ _ | refine blk_drew ?_ | refine blk_alloc ?_ _)); exact BK424.out) hg (Kd.R_ne HO_1.out BK424.out Z43)); have n2_ := Aside0.mk (hb); have n3_ := Aside0.mk (ho); clear HO_7; clear BK424; clear HB; clear HO_1; have HO_7 := n0_; have BK424 := n1_; have HB := n2_; have HO427 := n3_; clear n0_ n1_ n2_ n3_; clear ho hb hg hat))
       go_roundg k1
       case measure => have := HK1.out; omega
       case rel => exact ⟨(y425), (wrap64 (x9_1 + 1)), Z1, H', ⟨Z36⟩, ⟨by (with_reducible repeat (first | apply Kd.R_alloc | apply Kd.R_drewN | apply Kd.R_drew)); exact HO427.out⟩, ⟨by (with_reducible repeat (first | apply Kd.V_alloc | apply Kd.V_drewN | apply Kd.V_drew)); exact Kd.V_mono HO_7.out (fun _ hk => hk.2)⟩, ⟨Z0⟩⟩
      ·rw [if_neg c9] at H
       exact absurd H Z61
     ·rw [if_neg c8] at H
      exact absurd H Z61
    ·rw [if_neg c7] at H
     exact absurd H Z61
   ·rw [if_neg c6] at H
    have c6b0 := decide_eq_false c6
    clear c6
    replace H := bS H
    obtain ⟨t428, A13, H⟩ := H
    try dsimp only at H
    have H' := Aside0.mk H
    clear H
    go_wp2_with (first | (refine gQ (some 19) Try.func45 (goscan_keywords.calls A13.out) (h := ?_); rintro v429 w14 ⟨ho0, hb⟩; have n0_ := Aside0.mk (Kd.R_elder' (kK HO_1) (Kd.R_base ho0) hb); have n1_ := Aside0.mk (Kd.V_elder' (by (with_reducible repeat (first | apply Kd.V_alloc | apply Kd.V_drewN | apply Kd.V_drew)); exact HO_7.out) (Kd.R_base ho0) hb); have n2_ := Aside0.mk (Kd.R_lower (Kd.R_new' ho0 (Kd.R_lt (kK HO_1))) (below_size zB)); have n3_ := Aside0.mk (below_step zB hb); clear HO_1; clear HO_7; clear HB; have HO_1 := n0_; have HO_7 := n1_; have HO430 := n2_; have HB := n3_; clear n0_ n1_ n2_ n3_; (try clear hb); (try clear hb2); (try clear hk); (try clear hi); (try clear ho0); obtain ⟨Ao15, co15, eo15⟩ := Kd.R_slice HO430.out; subst eo15))
    go_loopg [1, 21] k1 (fun kq v1 v21 w' => ∃ (x1_2 : List ByteArray) (x21_2 : Int), v21 = .int .i64 x21_2 ∧ Aside0 (goscan_Kinds.l1 kq x1_2 t428 (t428.length : Int) x21_2 = some r) ∧ Aside0 (kq ≤ k1) ∧ Aside0 (Kd.R Kd.string 9 w' w.heap.size (fun k_ => some k_ ≠ ((.slice Ao15 t428.length co15) : Value).ownBlock) v1 x1_2) ∧ Aside0 (Kd.R Kd.string 9 w' w.heap.size (fun k_ => some k_ ≠ (v1 : Value).ownBlock) (.slice Ao15 t428.length co15) t428) ∧ Aside0 (Below w.heap.size w w'))
    case atStart => exact ⟨(x1_1), (0), Z1, H', ⟨Nat.le_refl _⟩, ⟨Z71⟩, ⟨by (with_reducible repeat (first | apply Kd.R_alloc | apply Kd.R_drewN | apply Kd.R_drew)); exact Kd.R_mono HO430.out (fun _ hk => hk.2)⟩, ⟨Z0⟩⟩
    case round =>
     clear H'
     try clear c2
     try clear p2
     try clear c4
     try clear p4
     try clear q4
     try clear hx4
     try clear c6
     try clear c6b0
     try clear p6
     try clear c7
     try clear c7b0
     try clear c8
     try clear c8b0
     try clear c9
     try clear hcz11_0
     try clear hcz11_1
     try clear hfz11_0
     try clear hfz11_1
     try clear hx423_0
     try clear hx423_1
     try clear p2
     try clear p423
     try clear q423
     obtain ⟨x1_2, x21_2, rfl, HA, HK2, HO_1, HO_19, HB⟩ := hrel
     cases gk with
     | zero => exact absurd HA.out (by simp [goscan_Kinds.l1])
     | succ k2 =>
      have H := HA.out
      clear HA
      simp only [goscan_Kinds.l1] at H
      by_cases c16 : x21_2 < (t428.length : Int)
      ·rw [if_pos c16] at H
       have c16b0 := decide_eq_true c16
       clear c16
       by_cases c17 : 0 ≤ x21_2
       ·rw [if_pos c17] at H
        have c17b0 := decide_eq_true c17
        clear c17
        by_cases c18 : x21_2 < (t428.length : Int)
        ·rw [if_pos c18] at H
         have c18b0 := decide_eq_true c18
         clear c18
         by_cases c19 : 1 + (rdOf ByteArray.empty t428 x21_2).size ≤ 9223372036854775807
         ·rw [if_pos c19] at H
          have c19b0 := eq_true c19
          have c19b1 := decide_eq_true c19
          try have c19b2 : (9223372036854775807 < 1 + (rdOf ByteArray.empty t428 x21_2).size) = False := eq_false (Nat.not_lt.2 c19)
          by_cases c20 : x1_2.length < 8796093022208
          ·rw [if_pos c20] at H
           have LMc20 := Aside0.mk c20
           clear c20
           obtain ⟨y432, hy432⟩ : ∃ y_ : List ByteArray, y_ = (x1_2 ++ [(⟨#[107]⟩ : ByteArray) ++ (rdOf ByteArray.empty t428 x21_2)]) := ⟨_, rfl⟩
           replace H : (goscan_Kinds.l1 k2 y432 t428 (t428.length : Int) (wrap64 (x21_2 + 1))) = some r := by first | (rw [hy432]; with_reducible exact H) | (have H2_ := (Option.bind_some _ _).symm.trans H; rw [hy432]; with_reducible exact H2_) | (have H2_ := (Option.bind_some _ _).symm.trans H; with_reducible exact H2_) | with_reducible exact H | (rw [hy432]; exact H) | exact H
           have Ny432 := Aside0.mk hy432
           clear hy432
           have H' := Aside0.mk H
           clear H
           have p431 : 0 ≤ (x21_2 : Int) := of_decide_eq_true Z3
           have q431 : x21_2 < (t428.length : Int) := of_decide_eq_true Z3
           obtain ⟨ad431, e431, hx431_0⟩ := Kd.at_string (Kd.R_reads' HO_19.out).2.2 x21_2 p431 q431
           cases e431
           replace p431 := eq_true p431
           replace q431 := eq_true q431
           go_wp2_with (first | ((with_reducible refine gate_builtin (b := .append) (xs := #[.tmp 25, .tmp 28]) rfl ?_); at_builtin; refine Kd.R_append Kd.string (w0 := w) w.heap.size rfl (.tmp 25) (.tmp 28) 38 9 (.string ⟨#[]⟩) 16 rfl Try.underlying38 info9 rfl Z43 Z57 u1 x1_2 ((⟨#[107]⟩ : ByteArray) ++ (rdOf ByteArray.empty t428 x21_2)) [.string ((⟨#[107]⟩ : ByteArray) ++ (rdOf ByteArray.empty t428 x21_2))] (fun k_ => some k_ ≠ (.slice (some ad431) t428.length co15 : Value).ownBlock) (fun _ => False) rfl rfl ?aP (fun _ hk => hk.elim) ?aF ?aO ?aB ?aS ?aL ?_; (case aP => exact rfl); (case aB => exact zB); (case aF => exact (fun k_ hk => Kd.fresh' (Kd.R_lt (kK HO_19)) k_ hk)); (case aO => exact (kK HO_1)); (case aS => exact (below_size zB)); (case aL => have := LMc20.out; omega); intro v433 w21 ho hb hg hat; rw [← Ny432.out] at ho; have n0_ := Aside0.mk (Kd.R_after (ok := (fun _ => True)) (by (with_reducible repeat (first | apply Kd.R_alloc | apply Kd.R_drewN | apply Kd.R_drew)); exact Kd.R_mono HO_19.out (fun _ hk => ⟨trivial, hk⟩)) hg hat); have n1_ := Aside0.mk (hb); have n2_ := Aside0.mk (ho); clear HO_19; clear HB; clear HO_1; have HO_19 := n0_; have HB := n1_; have HO434 := n2_; clear n0_ n1_ n2_; clear ho hb hg hat))
           go_roundg k2
           case measure => have := HK1.out; have := HK2.out; omega
           case rel => exact ⟨(y432), (wrap64 (x21_2 + 1)), Z1, H', ⟨by have := HK1.out; have := HK2.out; omega⟩, ⟨by (with_reducible repeat (first | apply Kd.R_alloc | apply Kd.R_drewN | apply Kd.R_drew)); exact HO434.out⟩, ⟨by (with_reducible repeat (first | apply Kd.R_alloc | apply Kd.R_drewN | apply Kd.R_drew)); exact Kd.R_mono HO_19.out (fun _ hk => hk.2)⟩, ⟨Z0⟩⟩
          ·rw [if_neg c20] at H
           exact absurd H Z61
         ·rw [if_neg c19] at H
          exact absurd H Z61
        ·rw [if_neg c18] at H
         exact absurd H Z61
       ·rw [if_neg c17] at H
        exact absurd H Z61
      ·rw [if_neg c16] at H
       have c16b0 := decide_eq_false c16
       clear c16
       obtain ⟨y435, hy435⟩ : ∃ y_ : List ByteArray, y_ = (([(⟨#[110, 101, 119, 108, 105, 110, 101]⟩ : ByteArray), (⟨#[114, 101, 109, 97, 114, 107]⟩ : ByteArray), (⟨#[99, 111, 109, 109, 101, 110, 116]⟩ : ByteArray)] : List ByteArray)) := ⟨_, rfl⟩
       replace H : (if x1_2.length + y435.length < 8796093022208 then (some (x1_2 ++ y435)) else (none)) = some r := by first | (rw [hy435]; with_reducible exact H) | (have H2_ := (Option.bind_some _ _).symm.trans H; rw [hy435]; with_reducible exact H2_) | (have H2_ := (Option.bind_some _ _).symm.trans H; with_reducible exact H2_) | with_reducible exact H | (rw [hy435]; exact H) | exact H
       have Ny435 := Aside0.mk hy435
       clear hy435
       by_cases c22 : x1_2.length + y435.length < 8796093022208
       ·rw [if_pos c22] at H
        have LMc22 := Aside0.mk c22
        clear c22
        obtain ⟨y438, hy438⟩ : ∃ y_ : List ByteArray, y_ = (x1_2 ++ y435) := ⟨_, rfl⟩
        replace H : (some y438) = some r := by first | (rw [hy438]; with_reducible exact H) | (have H2_ := (Option.bind_some _ _).symm.trans H; rw [hy438]; with_reducible exact H2_) | (have H2_ := (Option.bind_some _ _).symm.trans H; with_reducible exact H2_) | with_reducible exact H | (rw [hy438]; exact H) | exact H
        have Ny438 := Aside0.mk hy438
        clear hy438
        obtain rfl := Option.some.inj H
        go_wp2_with (first | ((with_reducible refine gate_dst (N := 32) rfl ?_); refine Kd.R_lit Kd.string _ 9 ?hg (N := 32) ?hd (xs := ([(⟨#[110, 101, 119, 108, 105, 110, 101]⟩ : ByteArray), (⟨#[114, 101, 109, 97, 114, 107]⟩ : ByteArray), (⟨#[99, 111, 109, 109, 101, 110, 116]⟩ : ByteArray)] : List ByteArray)) (inner := [.string (⟨#[110, 101, 119, 108, 105, 110, 101]⟩ : ByteArray), .string (⟨#[114, 101, 109, 97, 114, 107]⟩ : ByteArray), .string (⟨#[99, 111, 109, 109, 101, 110, 116]⟩ : ByteArray)]) (ok := fun _ => True) (okp := fun _ => True) ?hr ?hp (fun _ hk => hk) trivial (Below.refl _ _) (Nat.le_refl _) Z61 ?_; (case hd => rfl); (case hg => rfl); (case hr => first | (go_simp; done) | (go_simp; rfl)); (case hp => exact (Reps.one (show Kd.M Kd.string _ _ _ (⟨#[110, 101, 119, 108, 105, 110, 101]⟩ : ByteArray) [.string (⟨#[110, 101, 119, 108, 105, 110, 101]⟩ : ByteArray)] from rfl) (Reps.one (show Kd.M Kd.string _ _ _ (⟨#[114, 101, 109, 97, 114, 107]⟩ : ByteArray) [.string (⟨#[114, 101, 109, 97, 114, 107]⟩ : ByteArray)] from rfl) (Reps.one (show Kd.M Kd.string _ _ _ (⟨#[99, 111, 109, 109, 101, 110, 116]⟩ : ByteArray) [.string (⟨#[99, 111, 109, 109, 101, 110, 116]⟩ : ByteArray)] from rfl) (Reps.none _ _))))); intro v436 w23 ho24 hb hg_ hnew_; clear hg_ hnew_; (first | rw [← Ny435.out] at ho24 | (simp only [Int.reduceToNat] at ho24; rw [← Ny435.out] at ho24)); have HO437 := Aside0.mk (Kd.R_lower (Kd.R_new' (Kd.R_new' ho24 (Kd.R_lt (kK HO_1))) (Kd.R_lt (kK HO_19))) (below_size zB)); replace HO_1 := Aside0.mk (Kd.R_elder' (kK HO_1) (Kd.R_base ho24) hb); replace HO_19 := Aside0.mk (Kd.R_elder' (kK HO_19) (Kd.R_base ho24) hb); replace HB := Aside0.mk (below_step zB hb); clear hb ho24; obtain ⟨Ao26, co26, eo26⟩ := Kd.R_slice HO437.out; subst eo26) | ((with_reducible refine gate_builtin (b := .append) (xs := #[.tmp 31, .tmp 32]) rfl ?_); at_builtin; refine Kd.R_append_rows Kd.string (w0 := w) w.heap.size rfl (.tmp 31) (.tmp 32) 38 9 (.string ⟨#[]⟩) 16 rfl Try.underlying38 info9 rfl Z43 Z57 u1 x1_2 y435 _ _ _ (fun k_ => some k_ ≠ (.slice Ao15 t428.length co15 : Value).ownBlock ∧ some k_ ≠ (.slice Ao26 y435.length co26 : Value).ownBlock) (fun _ => False) rfl rfl ?aO ?aR (fun _ _ h => h) (fun _ h => h.elim) ?aF ?aB ?aS ?aL ?_; (case aR => repeat (first | exact (Kd.R_reads' HO437.out).2.2 | (with_reducible refine Kd.C_alloc ?_ _) | (with_reducible refine Kd.C_drewN ?_ _) | (with_reducible refine Kd.C_drew ?_))); (case aB => exact zB); (case aF => exact (fun k_ hk => ⟨Kd.fresh' (Kd.R_lt (kK HO_19)) k_ hk, Kd.fresh' (Kd.R_lt (kK HO437)) k_ hk⟩)); (case aO => exact (kK HO_1)); (case aS => exact (below_size zB)); (case aL => have := LMc22.out; omega); intro v439 w25 ho hb hg hat; rw [← Ny438.out] at ho; have n0_ := Aside0.mk (Kd.R_after (ok := (fun k_ => some k_ ≠ (.slice Ao26 y435.length co26 : Value).ownBlock)) (by (with_reducible repeat (first | apply Kd.R_alloc | apply Kd.R_drewN | apply Kd.R_drew)); exact Kd.R_mono HO_19.out (fun _ hk => ⟨hk.2, hk.1⟩)) hg hat); have n1_ := Aside0.mk (Kd.R_after (ok := (fun k_ => some k_ ≠ (.slice Ao15 t428.length co15 : Value).ownBlock)) (by (with_reducible repeat (first | apply Kd.R_alloc | apply Kd.R_drewN | apply Kd.R_drew)); exact Kd.R_mono HO437.out (fun _ hk => ⟨hk.2, hk.1.2⟩)) hg hat); have n2_ := Aside0.mk (hb); have n3_ := Aside0.mk (ho); clear HO_19; clear HO437; clear HB; clear HO_1; have HO_19 := n0_; have HO437 := n1_; have HB := n2_; have HO440 := n3_; clear n0_ n1_ n2_ n3_; clear ho hb hg hat))
        go_ret
        exact ⟨_, Z2, by (with_reducible repeat (first | apply Kd.R_alloc | apply Kd.R_drewN | apply Kd.R_drew)); exact Kd.R_mono HO440.out (fun _ hk => trivial), Z0⟩
       ·rw [if_neg c22] at H
        exact absurd H Z61
def token_named.l0 : Nat → ByteArray → Int → Option (Bool)
 | 0, _, _ => none
 | k + 1, x0, x3 => if x3 < (x0.size : Int) then (if 0 ≤ x3 then (if (bt x0 x3) ≥ 97 then (if (bt x0 x3) ≤ 122 then (token_named.l0 k x0 (wrap64 (x3 + 1))) else (if (bt x0 x3) ≥ 65 then (if (bt x0 x3) ≤ 90 then (token_named.l0 k x0 (wrap64 (x3 + 1))) else (if (bt x0 x3) = 95 then (token_named.l0 k x0 (wrap64 (x3 + 1))) else (if x3 > 0 then (if (bt x0 x3) ≥ 48 then (if (bt x0 x3) ≤ 57 then (token_named.l0 k x0 (wrap64 (x3 + 1))) else (some false)) else (some false)) else (some false)))) else (if (bt x0 x3) = 95 then (token_named.l0 k x0 (wrap64 (x3 + 1))) else (if x3 > 0 then (if (bt x0 x3) ≥ 48 then (if (bt x0 x3) ≤ 57 then (token_named.l0 k x0 (wrap64 (x3 + 1))) else (some false)) else (some false)) else (some false))))) else (if (bt x0 x3) ≥ 65 then (if (bt x0 x3) ≤ 90 then (token_named.l0 k x0 (wrap64 (x3 + 1))) else (if (bt x0 x3) = 95 then (token_named.l0 k x0 (wrap64 (x3 + 1))) else (if x3 > 0 then (if (bt x0 x3) ≥ 48 then (if (bt x0 x3) ≤ 57 then (token_named.l0 k x0 (wrap64 (x3 + 1))) else (some false)) else (some false)) else (some false)))) else (if (bt x0 x3) = 95 then (token_named.l0 k x0 (wrap64 (x3 + 1))) else (if x3 > 0 then (if (bt x0 x3) ≥ 48 then (if (bt x0 x3) ≤ 57 then (token_named.l0 k x0 (wrap64 (x3 + 1))) else (some false)) else (some false)) else (some false))))) else (none)) else (if (x0.size : Int) ≥ 1 then (some (decide ((x0.size : Int) ≤ 64))) else (some false))
def token_named.f (k : Nat) (a0 : ByteArray) : Option (Bool) := token_named.l0 k a0 0
theorem token_named.mono_l : ∀ k, (∀ y0 y1, LeO (token_named.l0 k y0 y1) (token_named.l0 (k + 1) y0 y1))
 | 0 => fun _ _ r h => by simp [token_named.l0] at h
 | k + 1 => by
  have ih0 := token_named.mono_l k
  ·intro y0 y1
   unfold token_named.l0
   exact mO
theorem token_named.mono : ∀ a0 k, LeO (token_named.f k a0) (token_named.f (k + 1) a0) := by
 intro a0 k
 have ih0 := token_named.mono_l k
 unfold token_named.f
 exact mO
set_option maxHeartbeats 8000000 in
set_option maxRecDepth 100000 in
theorem token_named.calls {k : Nat} {a0 : ByteArray} {r : Bool} {w : World} (h : token_named.f k a0 = some r) :
  Calls Try.prog 86 #[.string a0] w fun e w' => e = .returned (.bool r) ∧ Drawn0 w w' := by
 have H : (token_named.l0 k a0 0) = some r := h
 clear h
 have H' := Aside0.mk H
 clear H
 go_enter Try.func86, Try.ntmps86
 go_wp2
 go_loopg [3] k (fun kq v3 w' => ∃ (x3_1 : Int), v3 = .int .i64 x3_1 ∧ Aside0 (token_named.l0 kq a0 x3_1 = some r) ∧ Aside0 (kq ≤ k) ∧ Drawn0 w w')
 case atStart => exact ⟨(0), Z1, H', ⟨Nat.le_refl _⟩, Z4⟩
 case round =>
  clear H'
  obtain ⟨x3_1, rfl, HA, HK1, ⟨m1, rfl⟩⟩ := hrel
  cases gk with
  | zero => exact absurd HA.out (by simp [token_named.l0])
  | succ k1 =>
   have H := HA.out
   clear HA
   simp only [token_named.l0] at H
   by_cases c2 : x3_1 < (a0.size : Int)
   ·rw [if_pos c2] at H
    have c2b0 := decide_eq_true c2
    clear c2
    by_cases c3 : 0 ≤ x3_1
    ·rw [if_pos c3] at H
     have c3b0 := decide_eq_true c3
     clear c3
     by_cases c5 : (bt a0 x3_1) ≥ 97
     ·rw [if_pos c5] at H
      have c5b0 : decide (97 ≤ (bt a0 x3_1)) = true := decide_eq_true c5
      clear c5
      by_cases c6 : (bt a0 x3_1) ≤ 122
      ·rw [if_pos c6] at H
       have c6b0 := decide_eq_true c6
       clear c6
       have H' := Aside0.mk H
       clear H
       have p4 : 0 ≤ (x3_1 : Int) := of_decide_eq_true Z3
       have q4 : x3_1 < (a0.size : Int) := of_decide_eq_true Z3
       have hx4 := bt_at a0 x3_1
       replace p4 := eq_true p4
       replace q4 := eq_true q4
       go_wp2
       go_roundg k1
       case measure => have := HK1.out; omega
       case rel => exact ⟨(wrap64 (x3_1 + 1)), Z1, H', ⟨Z36⟩, Z4⟩
      ·rw [if_neg c6] at H
       have c6b0 := decide_eq_false c6
       clear c6
       by_cases c7 : (bt a0 x3_1) ≥ 65
       ·rw [if_pos c7] at H
        have c7b0 : decide (65 ≤ (bt a0 x3_1)) = true := decide_eq_true c7
        clear c7
        by_cases c8 : (bt a0 x3_1) ≤ 90
        ·rw [if_pos c8] at H
         have c8b0 := decide_eq_true c8
         clear c8
         have H' := Aside0.mk H
         clear H
         have p4 : 0 ≤ (x3_1 : Int) := of_decide_eq_true Z3
         have q4 : x3_1 < (a0.size : Int) := of_decide_eq_true Z3
         have hx4 := bt_at a0 x3_1
         replace p4 := eq_true p4
         replace q4 := eq_true q4
         go_wp2
         go_roundg k1
         case measure => have := HK1.out; omega
         case rel => exact ⟨(wrap64 (x3_1 + 1)), Z1, H', ⟨Z36⟩, Z4⟩
        ·rw [if_neg c8] at H
         have c8b0 := decide_eq_false c8
         clear c8
         by_cases c9 : (bt a0 x3_1) = 95
         ·rw [if_pos c9] at H
          have c9b0 := e1 c9
          have c9b1 := e2 c9
          clear c9
          have H' := Aside0.mk H
          clear H
          have p4 : 0 ≤ (x3_1 : Int) := of_decide_eq_true Z3
          have q4 : x3_1 < (a0.size : Int) := of_decide_eq_true Z3
          have hx4 := bt_at a0 x3_1
          replace p4 := eq_true p4
          replace q4 := eq_true q4
          go_wp2
          go_roundg k1
          case measure => have := HK1.out; omega
          case rel => exact ⟨(wrap64 (x3_1 + 1)), Z1, H', ⟨Z36⟩, Z4⟩
         ·rw [if_neg c9] at H
          have c9b0 := e3 c9
          have c9b1 := e4 c9
          by_cases c10 : x3_1 > 0
          ·rw [if_pos c10] at H
           have c10b0 : decide (0 < x3_1) = true := decide_eq_true c10
           clear c10
           by_cases c11 : (bt a0 x3_1) ≥ 48
           ·rw [if_pos c11] at H
            have c11b0 : decide (48 ≤ (bt a0 x3_1)) = true := decide_eq_true c11
            clear c11
            by_cases c12 : (bt a0 x3_1) ≤ 57
            ·rw [if_pos c12] at H
             have c12b0 := decide_eq_true c12
             clear c12
             have H' := Aside0.mk H
             clear H
             have p4 : 0 ≤ (x3_1 : Int) := of_decide_eq_true Z3
             have q4 : x3_1 < (a0.size : Int) := of_decide_eq_true Z3
             have hx4 := bt_at a0 x3_1
             replace p4 := eq_true p4
             replace q4 := eq_true q4
             go_wp2
             go_roundg k1
             case measure => have := HK1.out; omega
             case rel => exact ⟨(wrap64 (x3_1 + 1)), Z1, H', ⟨Z36⟩, Z4⟩
            ·rw [if_neg c12] at H
             have c12b0 := decide_eq_false c12
             clear c12
             obtain rfl := Option.some.inj H
             have p4 : 0 ≤ (x3_1 : Int) := of_decide_eq_true Z3
             have q4 : x3_1 < (a0.size : Int) := of_decide_eq_true Z3
             have hx4 := bt_at a0 x3_1
             replace p4 := eq_true p4
             replace q4 := eq_true q4
             go_wp2
             go_ret
             exact ⟨Z1, Z4⟩
           ·rw [if_neg c11] at H
            have c11b0 : decide (48 ≤ (bt a0 x3_1)) = false := decide_eq_false c11
            clear c11
            obtain rfl := Option.some.inj H
            have p4 : 0 ≤ (x3_1 : Int) := of_decide_eq_true Z3
            have q4 : x3_1 < (a0.size : Int) := of_decide_eq_true Z3
            have hx4 := bt_at a0 x3_1
            replace p4 := eq_true p4
            replace q4 := eq_true q4
            go_wp2
            go_ret
            exact ⟨Z1, Z4⟩
          ·rw [if_neg c10] at H
           have c10b0 : decide (0 < x3_1) = false := decide_eq_false c10
           clear c10
           obtain rfl := Option.some.inj H
           have p4 : 0 ≤ (x3_1 : Int) := of_decide_eq_true Z3
           have q4 : x3_1 < (a0.size : Int) := of_decide_eq_true Z3
           have hx4 := bt_at a0 x3_1
           replace p4 := eq_true p4
           replace q4 := eq_true q4
           go_wp2
           go_ret
           exact ⟨Z1, Z4⟩
       ·rw [if_neg c7] at H
        have c7b0 : decide (65 ≤ (bt a0 x3_1)) = false := decide_eq_false c7
        clear c7
        by_cases c13 : (bt a0 x3_1) = 95
        ·rw [if_pos c13] at H
         have c13b0 := e1 c13
         have c13b1 := e2 c13
         clear c13
         have H' := Aside0.mk H
         clear H
         have p4 : 0 ≤ (x3_1 : Int) := of_decide_eq_true Z3
         have q4 : x3_1 < (a0.size : Int) := of_decide_eq_true Z3
         have hx4 := bt_at a0 x3_1
         replace p4 := eq_true p4
         replace q4 := eq_true q4
         go_wp2
         go_roundg k1
         case measure => have := HK1.out; omega
         case rel => exact ⟨(wrap64 (x3_1 + 1)), Z1, H', ⟨Z36⟩, Z4⟩
        ·rw [if_neg c13] at H
         have c13b0 := e3 c13
         have c13b1 := e4 c13
         by_cases c14 : x3_1 > 0
         ·rw [if_pos c14] at H
          have c14b0 : decide (0 < x3_1) = true := decide_eq_true c14
          clear c14
          by_cases c15 : (bt a0 x3_1) ≥ 48
          ·rw [if_pos c15] at H
           have c15b0 : decide (48 ≤ (bt a0 x3_1)) = true := decide_eq_true c15
           clear c15
           by_cases c16 : (bt a0 x3_1) ≤ 57
           ·rw [if_pos c16] at H
            have c16b0 := decide_eq_true c16
            clear c16
            have H' := Aside0.mk H
            clear H
            have p4 : 0 ≤ (x3_1 : Int) := of_decide_eq_true Z3
            have q4 : x3_1 < (a0.size : Int) := of_decide_eq_true Z3
            have hx4 := bt_at a0 x3_1
            replace p4 := eq_true p4
            replace q4 := eq_true q4
            go_wp2
            go_roundg k1
            case measure => have := HK1.out; omega
            case rel => exact ⟨(wrap64 (x3_1 + 1)), Z1, H', ⟨Z36⟩, Z4⟩
           ·rw [if_neg c16] at H
            have c16b0 := decide_eq_false c16
            clear c16
            obtain rfl := Option.some.inj H
            have p4 : 0 ≤ (x3_1 : Int) := of_decide_eq_true Z3
            have q4 : x3_1 < (a0.size : Int) := of_decide_eq_true Z3
            have hx4 := bt_at a0 x3_1
            replace p4 := eq_true p4
            replace q4 := eq_true q4
            go_wp2
            go_ret
            exact ⟨Z1, Z4⟩
          ·rw [if_neg c15] at H
           have c15b0 : decide (48 ≤ (bt a0 x3_1)) = false := decide_eq_false c15
           clear c15
           obtain rfl := Option.some.inj H
           have p4 : 0 ≤ (x3_1 : Int) := of_decide_eq_true Z3
           have q4 : x3_1 < (a0.size : Int) := of_decide_eq_true Z3
           have hx4 := bt_at a0 x3_1
           replace p4 := eq_true p4
           replace q4 := eq_true q4
           go_wp2
           go_ret
           exact ⟨Z1, Z4⟩
         ·rw [if_neg c14] at H
          have c14b0 : decide (0 < x3_1) = false := decide_eq_false c14
          clear c14
          obtain rfl := Option.some.inj H
          have p4 : 0 ≤ (x3_1 : Int) := of_decide_eq_true Z3
          have q4 : x3_1 < (a0.size : Int) := of_decide_eq_true Z3
          have hx4 := bt_at a0 x3_1
          replace p4 := eq_true p4
          replace q4 := eq_true q4
          go_wp2
          go_ret
          exact ⟨Z1, Z4⟩
     ·rw [if_neg c5] at H
      have c5b0 : decide (97 ≤ (bt a0 x3_1)) = false := decide_eq_false c5
      clear c5
      by_cases c17 : (bt a0 x3_1) ≥ 65
      ·rw [if_pos c17] at H
       have c17b0 : decide (65 ≤ (bt a0 x3_1)) = true := decide_eq_true c17
       clear c17
       by_cases c18 : (bt a0 x3_1) ≤ 90
       ·rw [if_pos c18] at H
        have c18b0 := decide_eq_true c18
        clear c18
        have H' := Aside0.mk H
        clear H
        have p4 : 0 ≤ (x3_1 : Int) := of_decide_eq_true Z3
        have q4 : x3_1 < (a0.size : Int) := of_decide_eq_true Z3
        have hx4 := bt_at a0 x3_1
        replace p4 := eq_true p4
        replace q4 := eq_true q4
        go_wp2
        go_roundg k1
        case measure => have := HK1.out; omega
        case rel => exact ⟨(wrap64 (x3_1 + 1)), Z1, H', ⟨Z36⟩, Z4⟩
       ·rw [if_neg c18] at H
        have c18b0 := decide_eq_false c18
        clear c18
        by_cases c19 : (bt a0 x3_1) = 95
        ·rw [if_pos c19] at H
         have c19b0 := e1 c19
         have c19b1 := e2 c19
         clear c19
         have H' := Aside0.mk H
         clear H
         have p4 : 0 ≤ (x3_1 : Int) := of_decide_eq_true Z3
         have q4 : x3_1 < (a0.size : Int) := of_decide_eq_true Z3
         have hx4 := bt_at a0 x3_1
         replace p4 := eq_true p4
         replace q4 := eq_true q4
         go_wp2
         go_roundg k1
         case measure => have := HK1.out; omega
         case rel => exact ⟨(wrap64 (x3_1 + 1)), Z1, H', ⟨Z36⟩, Z4⟩
        ·rw [if_neg c19] at H
         have c19b0 := e3 c19
         have c19b1 := e4 c19
         by_cases c20 : x3_1 > 0
         ·rw [if_pos c20] at H
          have c20b0 : decide (0 < x3_1) = true := decide_eq_true c20
          clear c20
          by_cases c21 : (bt a0 x3_1) ≥ 48
          ·rw [if_pos c21] at H
           have c21b0 : decide (48 ≤ (bt a0 x3_1)) = true := decide_eq_true c21
           clear c21
           by_cases c22 : (bt a0 x3_1) ≤ 57
           ·rw [if_pos c22] at H
            have c22b0 := decide_eq_true c22
            clear c22
            have H' := Aside0.mk H
            clear H
            have p4 : 0 ≤ (x3_1 : Int) := of_decide_eq_true Z3
            have q4 : x3_1 < (a0.size : Int) := of_decide_eq_true Z3
            have hx4 := bt_at a0 x3_1
            replace p4 := eq_true p4
            replace q4 := eq_true q4
            go_wp2
            go_roundg k1
            case measure => have := HK1.out; omega
            case rel => exact ⟨(wrap64 (x3_1 + 1)), Z1, H', ⟨Z36⟩, Z4⟩
           ·rw [if_neg c22] at H
            have c22b0 := decide_eq_false c22
            clear c22
            obtain rfl := Option.some.inj H
            have p4 : 0 ≤ (x3_1 : Int) := of_decide_eq_true Z3
            have q4 : x3_1 < (a0.size : Int) := of_decide_eq_true Z3
            have hx4 := bt_at a0 x3_1
            replace p4 := eq_true p4
            replace q4 := eq_true q4
            go_wp2
            go_ret
            exact ⟨Z1, Z4⟩
          ·rw [if_neg c21] at H
           have c21b0 : decide (48 ≤ (bt a0 x3_1)) = false := decide_eq_false c21
           clear c21
           obtain rfl := Option.some.inj H
           have p4 : 0 ≤ (x3_1 : Int) := of_decide_eq_true Z3
           have q4 : x3_1 < (a0.size : Int) := of_decide_eq_true Z3
           have hx4 := bt_at a0 x3_1
           replace p4 := eq_true p4
           replace q4 := eq_true q4
           go_wp2
           go_ret
           exact ⟨Z1, Z4⟩
         ·rw [if_neg c20] at H
          have c20b0 : decide (0 < x3_1) = false := decide_eq_false c20
          clear c20
          obtain rfl := Option.some.inj H
          have p4 : 0 ≤ (x3_1 : Int) := of_decide_eq_true Z3
          have q4 : x3_1 < (a0.size : Int) := of_decide_eq_true Z3
          have hx4 := bt_at a0 x3_1
          replace p4 := eq_true p4
          replace q4 := eq_true q4
          go_wp2
          go_ret
          exact ⟨Z1, Z4⟩
      ·rw [if_neg c17] at H
       have c17b0 : decide (65 ≤ (bt a0 x3_1)) = false := decide_eq_false c17
       clear c17
       by_cases c23 : (bt a0 x3_1) = 95
       ·rw [if_pos c23] at H
        have c23b0 := e1 c23
        have c23b1 := e2 c23
        clear c23
        have H' := Aside0.mk H
        clear H
        have p4 : 0 ≤ (x3_1 : Int) := of_decide_eq_true Z3
        have q4 : x3_1 < (a0.size : Int) := of_decide_eq_true Z3
        have hx4 := bt_at a0 x3_1
        replace p4 := eq_true p4
        replace q4 := eq_true q4
        go_wp2
        go_roundg k1
        case measure => have := HK1.out; omega
        case rel => exact ⟨(wrap64 (x3_1 + 1)), Z1, H', ⟨Z36⟩, Z4⟩
       ·rw [if_neg c23] at H
        have c23b0 := e3 c23
        have c23b1 := e4 c23
        by_cases c24 : x3_1 > 0
        ·rw [if_pos c24] at H
         have c24b0 : decide (0 < x3_1) = true := decide_eq_true c24
         clear c24
         by_cases c25 : (bt a0 x3_1) ≥ 48
         ·rw [if_pos c25] at H
          have c25b0 : decide (48 ≤ (bt a0 x3_1)) = true := decide_eq_true c25
          clear c25
          by_cases c26 : (bt a0 x3_1) ≤ 57
          ·rw [if_pos c26] at H
           have c26b0 := decide_eq_true c26
           clear c26
           have H' := Aside0.mk H
           clear H
           have p4 : 0 ≤ (x3_1 : Int) := of_decide_eq_true Z3
           have q4 : x3_1 < (a0.size : Int) := of_decide_eq_true Z3
           have hx4 := bt_at a0 x3_1
           replace p4 := eq_true p4
           replace q4 := eq_true q4
           go_wp2
           go_roundg k1
           case measure => have := HK1.out; omega
           case rel => exact ⟨(wrap64 (x3_1 + 1)), Z1, H', ⟨Z36⟩, Z4⟩
          ·rw [if_neg c26] at H
           have c26b0 := decide_eq_false c26
           clear c26
           obtain rfl := Option.some.inj H
           have p4 : 0 ≤ (x3_1 : Int) := of_decide_eq_true Z3
           have q4 : x3_1 < (a0.size : Int) := of_decide_eq_true Z3
           have hx4 := bt_at a0 x3_1
           replace p4 := eq_true p4
           replace q4 := eq_true q4
           go_wp2
           go_ret
           exact ⟨Z1, Z4⟩
         ·rw [if_neg c25] at H
          have c25b0 : decide (48 ≤ (bt a0 x3_1)) = false := decide_eq_false c25
          clear c25
          obtain rfl := Option.some.inj H
          have p4 : 0 ≤ (x3_1 : Int) := of_decide_eq_true Z3
          have q4 : x3_1 < (a0.size : Int) := of_decide_eq_true Z3
          have hx4 := bt_at a0 x3_1
          replace p4 := eq_true p4
          replace q4 := eq_true q4
          go_wp2
          go_ret
          exact ⟨Z1, Z4⟩
        ·rw [if_neg c24] at H
         have c24b0 : decide (0 < x3_1) = false := decide_eq_false c24
         clear c24
         obtain rfl := Option.some.inj H
         have p4 : 0 ≤ (x3_1 : Int) := of_decide_eq_true Z3
         have q4 : x3_1 < (a0.size : Int) := of_decide_eq_true Z3
         have hx4 := bt_at a0 x3_1
         replace p4 := eq_true p4
         replace q4 := eq_true q4
         go_wp2
         go_ret
         exact ⟨Z1, Z4⟩
    ·rw [if_neg c3] at H
     exact absurd H Z61
   ·rw [if_neg c2] at H
    have c2b0 := decide_eq_false c2
    clear c2
    by_cases c27 : (a0.size : Int) ≥ 1
    ·rw [if_pos c27] at H
     have c27b0 : decide (1 ≤ (a0.size : Int)) = true := decide_eq_true c27
     have c27b1 : decide (1 ≤ a0.size) = true := decide_eq_true Z57
     clear c27
     obtain rfl := Option.some.inj H
     go_wp2
     go_ret
     exact ⟨Z1, Z4⟩
    ·rw [if_neg c27] at H
     have c27b0 : decide (1 ≤ (a0.size : Int)) = false := decide_eq_false c27
     have c27b1 : decide (1 ≤ a0.size) = false := decide_eq_false Z57
     clear c27
     obtain rfl := Option.some.inj H
     go_wp2
     go_ret
     exact ⟨Z1, Z4⟩
def token_Kinds.good (k : Nat) (l0 : List ByteArray) : Bool := decide (2 ≤ l0.length) && decide (l0.length ≤ 1024) && (rdOf ByteArray.empty l0 0).toList == [101, 110, 100] && (rdOf ByteArray.empty l0 1).toList == [101, 114, 114, 111, 114] && l0.all (fun s => decide (s.size ≤ 64) && token_named.f k s == some true) && decide (l0.map (·.data.toList)).Nodup
def token_Kinds.f (k : Nat) (l0 : List ByteArray) : Option (Int) := if token_Kinds.good k l0 = true then some 0 else none
theorem token_Kinds.mono : ∀ a0 k, LeO (token_Kinds.f k a0) (token_Kinds.f (k + 1) a0) := by
 intro a0 k r h
 unfold token_Kinds.f at h ⊢
 by_cases c : token_Kinds.good k a0 = true
 ·rw [if_pos c] at h
  rw [if_pos ?_]
  ·exact h
  ·simp only [token_Kinds.good, Bool.and_eq_true, List.all_eq_true, beq_iff_eq, decide_eq_true_eq] at c ⊢
   exact ⟨⟨c.1.1, fun x hx => ⟨(c.1.2 x hx).1, token_named.mono x k _ (c.1.2 x hx).2⟩⟩, c.2⟩
 ·rw [if_neg c] at h
  cases h
theorem token_Kinds.law9 : Maps.Keyed Try.prog 9 := Maps.string_keyed Try.underlying9
def token_Kinds.met (l : List ByteArray) : DataW Unit := Maps.setOf (.lit (.bool true)) (l.map fun s => Lit.string s.data.toList)
theorem token_Kinds.fresh (l : List ByteArray) (s : ByteArray) (h : s.data.toList ∉ l.map (·.data.toList)) : Maps.has (token_Kinds.met l) (.string s.data.toList) = false := by
 unfold token_Kinds.met
 rw [Maps.has_setOf _ _ _ (fun y hy => by obtain ⟨_, _, rfl⟩ := List.mem_map.1 hy; trivial)]
 rw [List.any_eq_false]
 intro x hx
 obtain ⟨s', hs', rfl⟩ := List.mem_map.1 hx
 intro e
 apply h
 have e' : s'.data.toList = s.data.toList := by simpa [Lit.sameKey] using e
 exact List.mem_map.2 ⟨s', hs', e'⟩
set_option maxRecDepth 100000 in
theorem token_Kinds.absent {w : World} {b n : Nat} {l : List ByteArray} (h : w.ownsMap Try.prog 9 (plainElem Try.prog 4) b n (token_Kinds.met l)) (s : ByteArray) (hs : s.size ≤ 64) (hn : s.data.toList ∉ l.map (·.data.toList)) :
  (Instr.lookup 93 (.map (some b)) (.string s) false).run Try.prog w = .ok (.bool false) w := by
 obtain ⟨v, ps, hrun, hv⟩ := h.lookup token_Kinds.law9 Try.underlying93 (z := .bool false) Z5 (zd := .lit (.bool false)) (zp := []) (plainElem_bool Try.underlying4 false) (key := .string s) (kl := .string s.data.toList) (Go.WideMaps.keyOf_string_mk Try.underlying9 (by unfold maxLen; omega))
 rw [Maps.atKey_of_not_has (token_Kinds.fresh l s hn)] at hv
 have e : v = .bool false := by
  unfold plainElem at hv
  rw [Try.underlying4] at hv
  cases v <;> simp at hv
  rename_i x
  rw [hv.1]
 rw [hrun, e]
theorem token_Kinds.snoc (l : List ByteArray) (s : ByteArray) : token_Kinds.met (l ++ [s]) = (token_Kinds.met l).put (.string s.data.toList) (.lit (.bool true)) := by
 unfold token_Kinds.met
 rw [List.map_append, List.map_cons, List.map_nil, Maps.setOf_snoc]
set_option maxHeartbeats 8000000 in
set_option maxRecDepth 100000 in
theorem token_Kinds.calls (k : Nat) (A0 : Option Addr) (c0 : Nat) (l0 : List ByteArray) (r : Int) (w : World) (hr0 : Kd.C Kd.string w A0 l0.length l0) (hc0 : l0.length ≤ c0) (h : token_Kinds.f k l0 = some r) :
  Calls Try.prog 62 #[.slice A0 l0.length c0] w fun e w' => e = .returned (.int .i64 r) ∧ Below w.heap.size w w' := by
 have HR0 := Aside0.mk hr0
 have HC0 := Aside0.mk hc0
 clear hr0 hc0
 unfold token_Kinds.f at h
 by_cases cg : token_Kinds.good k l0 = true
 ·rw [if_pos cg] at h
  obtain rfl := Option.some.inj h
  clear h
  simp only [token_Kinds.good, Bool.and_eq_true, List.all_eq_true, beq_iff_eq, decide_eq_true_eq] at cg
  obtain ⟨⟨⟨⟨⟨g1, g2⟩, g3⟩, g4⟩, g5⟩, g6⟩ := cg
  have G5 := Aside0.mk g5
  have G6 := Aside0.mk g6
  have HL := Aside0.mk g2
  clear g5 g6
  have d1 : decide ((l0.length : Int) < 2) = false := decide_eq_false Z57
  have d1' : decide (l0.length < 2) = false := decide_eq_false Z57
  have d2 : decide ((1024 : Int) < (l0.length : Int)) = false := decide_eq_false Z57
  have d2' : decide (1024 < l0.length) = false := decide_eq_false Z57
  have d3 : ((rdOf ByteArray.empty l0 0).toList == [101, 110, 100]) = true := beq_iff_eq.mpr g3
  have d4 : ((rdOf ByteArray.empty l0 1).toList == [101, 114, 114, 111, 114]) = true := beq_iff_eq.mpr g4
  have d5 : (0 : Int) < (l0.length : Int) := by omega
  have d6 : (1 : Int) < (l0.length : Int) := by omega
  have d5' : 0 < l0.length := by omega
  have d6' : 1 < l0.length := by omega
  obtain ⟨ad0, e0, hx0⟩ := Kd.at_string HR0.out 0 Z57 d5
  obtain ⟨ad1, e1, hx1⟩ := Kd.at_string HR0.out 1 Z57 d6
  cases e0
  obtain rfl := Option.some.inj e1
  have hy0 : w.cell? ad0 = some (.string (rdOf ByteArray.empty l0 0)) := (by cases ad0; rfl : ad0.add (Int.toNat 0) = ad0) ▸ hx0
  have hy1 : w.cell? ⟨ad0.block, ad0.off + 1, none⟩ = some (.string (rdOf ByteArray.empty l0 1)) := (by cases ad0; rfl : ad0.add (Int.toNat 1) = ⟨ad0.block, ad0.off + 1, none⟩) ▸ hx1
  clear e1 g1 g2 g3 g4 hx0 hx1
  have hmm := @run_makeMap Try.prog
  go_enter Try.func62, Try.ntmps62
  go_wp2
  clear d1 d1' d2 d2' d3 d4 d5 d6 d5' d6' hy0 hy1 hmm
  go_loopw [29] (fun i wr => ∃ x : Int, 0 ≤ x ∧ x ≤ (l0.length : Int) ∧ i = .int .i64 x ∧ Aside0 (wr.ownsMap Try.prog 9 (plainElem Try.prog 4) w.heap.size x.toNat (token_Kinds.met (l0.take x.toNat))) ∧ Aside0 (Below w.heap.size w wr)) (fun i _ => l0.length - (intOf i).toNat)
  case atStart => exact ⟨0, Z57, Z57, rfl, ⟨World.ownsMap_made _ _ _ _⟩, ⟨(Below.refl _ _).alloc (Nat.le_refl _) _⟩⟩
  case round =>
   obtain ⟨x, hx0, hx1, rfl, hM, hB⟩ := hrel
   by_cases hlt : x < (l0.length : Int)
   ·obtain ⟨ad, e0, hc⟩ := Kd.at_string (Kd.C_below HR0.out hB.out) x hx0 hlt
    obtain rfl := Option.some.inj e0
    clear e0
    obtain ⟨s, hs⟩ : ∃ s, rdOf ByteArray.empty l0 x = s := ⟨_, rfl⟩
    rw [hs] at hc
    have hgs : l0[x.toNat]? = some s := by
     have hl : x.toNat < l0.length := by omega
     rw [← hs]; unfold rdOf; rw [List.getD_eq_getElem?_getD, List.getElem?_eq_getElem hl]; rfl
    have hS := Aside0.mk hgs
    have g := G5.out s (List.mem_of_getElem? hgs)
    have hg1 := Aside0.mk g.1
    have hg2 := Aside0.mk g.2
    have hno : s.data.toList ∉ (l0.take x.toNat).map (·.data.toList) := by
     have hl : x.toNat < l0.length := by omega
     have hnd := G6.out
     intro hm
     have e1 : l0.map (·.data.toList) = (l0.take x.toNat).map (·.data.toList) ++ (l0.drop x.toNat).map (·.data.toList) := by rw [← List.map_append, List.take_append_drop]
     rw [e1, List.nodup_append] at hnd
     have hd : s.data.toList ∈ (l0.drop x.toNat).map (·.data.toList) := List.mem_map.2 ⟨s, List.mem_of_getElem? (i := 0) (by rw [List.getElem?_drop]; exact hgs), rfl⟩
     exact hnd.2.2 _ hm _ hd rfl
    have hlk : ∀ m, (Instr.lookup 93 (.map (some w.heap.size)) (.string s) false).run Try.prog (wr.drewN m) = .ok (.bool false) (wr.drewN m) := fun m => token_Kinds.absent (w := wr.drewN m) hM.out s hg1.out hno
    clear hs hgs g hno
    have hw : wrap64 (x + 1) = x + 1 := by unfold wrap64; have := HC0.out; have := HR0.out.2.1; omega
    have hw := Aside0.mk hw
    have hlb : decide (x < (l0.length : Int)) = true := decide_eq_true hlt
    go_wp2_with (first
     | (go_at_call 86; refine (token_named.calls hg2.out).mono ?_; rintro e w1 ⟨rfl, ⟨nd, rfl⟩⟩)
     | (at_mapUpdate; refine wpList_mapUpdate_own _ rfl _ _ _ 93 rfl 9 4 token_Kinds.law9 Try.underlying93 (plainElem (H := Unit) Try.prog 4) w.heap.size x.toNat _ rfl (show (wr.drewN nd).ownsMap _ _ _ _ _ _ from hM.out) (by have := HL.out; unfold maxLen; omega) _ _ _ rfl rfl (Go.WideMaps.keyOf_string_mk Try.underlying9 (by have := hg1.out; unfold maxLen; omega)) _ [] (plainElem_bool Try.underlying4 true) ?_; intro w1 hown1 hgrow1; have hown1 := Aside0.mk hown1; have hgrow1 := Aside0.mk hgrow1))
    go_roundw
    case rel =>
     have e1 : (x + 1).toNat = x.toNat + 1 := by omega
     have e2 : l0.take (x.toNat + 1) = l0.take x.toNat ++ [s] := by rw [List.take_add_one, hS.out]; rfl
     refine ⟨x + 1, Z57, Z57, by rw [hw.out], ⟨?_⟩, ⟨?_⟩⟩
     ·rw [e1, e2, token_Kinds.snoc]; exact hown1.out
     ·exact (pw_below_drewN hB.out nd).grown hgrow1.out (show w.heap.size ≤ wr.heap.size from hB.out.size) (fun k hk => Nat.le_of_eq (Option.some.inj hk))
    case measure => simp [intOf]; omega
   ·go_wp2
    go_ret
    exact ⟨rfl, hB.out⟩
 ·rw [if_neg cg] at h
  cases h
end Go.Proofs.Ytcajiapjdlphmaa.H
