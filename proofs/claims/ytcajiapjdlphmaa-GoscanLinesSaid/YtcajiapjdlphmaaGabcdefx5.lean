import Derived.Test.YtcajiapjdlphmaaGPre
import Derived.Test.YtcajiapjdlphmaaGabcdefx0
import Derived.Test.YtcajiapjdlphmaaGabcdefx1
import Derived.Test.YtcajiapjdlphmaaGabcdefx2
import Derived.Test.YtcajiapjdlphmaaGabcdefx3
import Derived.Test.YtcajiapjdlphmaaGabcdefx4
namespace Go.Proofs.Ytcajiapjdlphmaa.H
open Go.RowKit Go.Proofs.YtcajiapjdlphmaaW.PrintWords Go.Proofs.YtcajiapjdlphmaaW.PrintLast Go.Proofs.YtcajiapjdlphmaaW.PrintMore
attribute [local go_sem] max2_int min2_int max_two min_two max_three min_three max_four min_four
set_option linter.unusedVariables false
set_option linter.unusedSimpArgs false
mutual
def goscan_quotedForm.l0 : Nat → ByteArray → Int → Option (Int)
 | 0, _, _ => none
 | k + 1, x0, x1 => (goscan_at.f x0 x1).bind fun t212 => (if t212 = 34 then (some (wrap64 (x1 + 1))) else ((goscan_oneForm.f k x0 x1 34).bind fun t213 => (if t213 < 0 then (some (-1)) else (goscan_quotedForm.l0 k x0 t213))))
def goscan_quotedForm.l1 : Nat → ByteArray → Int → Option (Int)
 | 0, _, _ => none
 | k + 1, x0, x1 => (goscan_at.f x0 x1).bind fun t214 => (if t214 = 96 then (some (wrap64 (x1 + 1))) else ((goscan_plainRune.f x0 x1).bind fun bt215 => (if bt215.2 = 0 then (some (-1)) else (goscan_quotedForm.l1 k x0 (wrap64 (x1 + bt215.2))))))
end
def goscan_quotedForm.f (k : Nat) (a0 : ByteArray) (a1 : Int) : Option (Int) := (goscan_at.f a0 a1).bind fun t211 => (if t211 = 34 then (goscan_quotedForm.l0 k a0 (wrap64 (a1 + 1))) else (if t211 = 96 then (goscan_quotedForm.l1 k a0 (wrap64 (a1 + 1))) else (some (-1))))
theorem goscan_quotedForm.mono_l : ∀ k, (∀ y0 y1, LeO (goscan_quotedForm.l0 k y0 y1) (goscan_quotedForm.l0 (k + 1) y0 y1)) ∧ (∀ y0 y1, LeO (goscan_quotedForm.l1 k y0 y1) (goscan_quotedForm.l1 (k + 1) y0 y1))
 | 0 => ⟨fun _ _ r h => by simp [goscan_quotedForm.l0] at h, fun _ _ r h => by simp [goscan_quotedForm.l1] at h⟩
 | k + 1 => by
  obtain ⟨ih0, ih1⟩ := goscan_quotedForm.mono_l k
  refine ⟨?_, ?_⟩
  ·intro y0 y1
   unfold goscan_quotedForm.l0
   repeat' first
   | (with_reducible exact ih0 _ _)
   | (with_reducible exact ih1 _ _)
   | (with_reducible exact goscan_oneForm.mono _ _ _ _)
   | (with_reducible exact LeO.refl _)
   | (with_reducible exact LeO.none _)
   | (with_reducible refine LeO.ite ?_ ?_)
   | (with_reducible refine LeO.bind ?_ (fun _ => ?_))
   | exact ih0 _ _
   | exact ih1 _ _
   | exact goscan_oneForm.mono _ _ _ _
   | exact LeO.none _
   | refine LeO.ite ?_ ?_
   | refine LeO.bind ?_ (fun _ => ?_)
  ·intro y0 y1
   unfold goscan_quotedForm.l1
   repeat' first
   | (with_reducible exact ih0 _ _)
   | (with_reducible exact ih1 _ _)
   | (with_reducible exact goscan_oneForm.mono _ _ _ _)
   | (with_reducible exact LeO.refl _)
   | (with_reducible exact LeO.none _)
   | (with_reducible refine LeO.ite ?_ ?_)
   | (with_reducible refine LeO.bind ?_ (fun _ => ?_))
   | exact ih0 _ _
   | exact ih1 _ _
   | exact goscan_oneForm.mono _ _ _ _
   | exact LeO.none _
   | refine LeO.ite ?_ ?_
   | refine LeO.bind ?_ (fun _ => ?_)
theorem goscan_quotedForm.mono : ∀ a0 a1 k, LeO (goscan_quotedForm.f k a0 a1) (goscan_quotedForm.f (k + 1) a0 a1) := by
 intro a0 a1 k
 obtain ⟨ih0, ih1⟩ := goscan_quotedForm.mono_l k
 unfold goscan_quotedForm.f
 repeat' first
   | (with_reducible exact ih0 _ _)
   | (with_reducible exact ih1 _ _)
   | (with_reducible exact goscan_oneForm.mono _ _ _ _)
   | (with_reducible exact LeO.refl _)
   | (with_reducible exact LeO.none _)
   | (with_reducible refine LeO.ite ?_ ?_)
   | (with_reducible refine LeO.bind ?_ (fun _ => ?_))
   | exact ih0 _ _
   | exact ih1 _ _
   | exact goscan_oneForm.mono _ _ _ _
   | exact LeO.none _
   | refine LeO.ite ?_ ?_
   | refine LeO.bind ?_ (fun _ => ?_)
set_option maxHeartbeats 8000000 in
set_option maxRecDepth 100000 in
theorem goscan_quotedForm.calls (k : Nat) (a0 : ByteArray) (a1 : Int) (r : Int) (w : World) (h : goscan_quotedForm.f k a0 a1 = some r) :
  Calls Try.prog 76 #[.string a0, .int .i64 a1] w fun e w' => e = .returned (.int .i64 r) ∧ Below w.heap.size w w' := by
 have HB := Aside0.mk (Below.refl w.heap.size w)
 have H : ((goscan_at.f a0 a1).bind fun t211 => (if t211 = 34 then (goscan_quotedForm.l0 k a0 (wrap64 (a1 + 1))) else (if t211 = 96 then (goscan_quotedForm.l1 k a0 (wrap64 (a1 + 1))) else (some (-1))))) = some r := h
 clear h
 replace H := Option.bind_eq_some_iff.mp H
 obtain ⟨t211, A30, H⟩ := H
 replace H : (if t211 = 34 then (goscan_quotedForm.l0 k a0 (wrap64 (a1 + 1))) else (if t211 = 96 then (goscan_quotedForm.l1 k a0 (wrap64 (a1 + 1))) else (some (-1)))) = some r := H
 have A3 := Aside0.mk A30
 clear A30
 by_cases c4 : t211 = 34
 ·rw [if_pos c4] at H
  have c4b0 : (t211 == 34) = true := beq_iff_eq.mpr c4
  have c4b1 : (t211 != 34) = false := bne_eq_false_iff_eq.mpr c4
  clear c4
  have H' := Aside0.mk H
  clear H
  go_enter Try.func76, Try.ntmps76
  go_wp2_with (first | ((with_reducible refine gate_callee (f := 90) rfl ?_); refine goesL_ (some 9) rfl rfl Try.func90 (by kernel_rfl) rfl #[.string a0, .int .i64 a1] rfl (by (try simp only [List.map_toArray, List.map_cons, List.map_nil]); first | done | rfl | (simp only [List.length_drop, List.length_take]; rfl)) ?_; (with_reducible refine (goscan_at.calls a0 a1 t211 _ A3.out).mono ?_); rintro e w' ⟨rfl, ⟨nd, rfl⟩⟩; refine ⟨_, rfl, ?_⟩))
  go_loopg [1] k (fun kq v1 w' => ∃ (x1_1 : Int), v1 = .int .i64 x1_1 ∧ Aside0 (goscan_quotedForm.l0 kq a0 x1_1 = some r) ∧ Aside0 (kq ≤ k) ∧ Aside0 (Below w.heap.size w w'))
  case atStart => exact ⟨(wrap64 (a1 + 1)), (by first | rfl | (simp; done) | (simp [*]; done) | (simp <;> omega) | rw [u32_tmod]), H', ⟨Nat.le_refl _⟩, ⟨by repeat (first | (with_reducible first | exact HB.out | apply below_alloc | apply pw_below_drewN | apply below_drew1) | exact HB.out)⟩⟩
  case round =>
   clear H'
   try clear p2
   try clear c4
   try clear c4b0
   try clear c4b1
   obtain ⟨x1_1, rfl, HA, HK1, HB⟩ := hrel
   cases gk with
   | zero => exact absurd HA.out (by simp [goscan_quotedForm.l0])
   | succ k1 =>
    have H := HA.out
    clear HA
    simp only [goscan_quotedForm.l0] at H
    replace H := Option.bind_eq_some_iff.mp H
    obtain ⟨t212, A50, H⟩ := H
    replace H : (if t212 = 34 then (some (wrap64 (x1_1 + 1))) else ((goscan_oneForm.f k1 a0 x1_1 34).bind fun t213 => (if t213 < 0 then (some (-1)) else (goscan_quotedForm.l0 k1 a0 t213)))) = some r := H
    have A5 := Aside0.mk A50
    clear A50
    by_cases c6 : t212 = 34
    ·rw [if_pos c6] at H
     have c6b0 : (t212 == 34) = true := beq_iff_eq.mpr c6
     have c6b1 : (t212 != 34) = false := bne_eq_false_iff_eq.mpr c6
     clear c6
     obtain rfl := Option.some.inj H
     go_wp2_with (first | ((with_reducible refine gate_callee (f := 90) rfl ?_); refine goesL_ (some 16) rfl rfl Try.func90 (by kernel_rfl) rfl #[.string a0, .int .i64 x1_1] rfl (by (try simp only [List.map_toArray, List.map_cons, List.map_nil]); first | done | rfl | (simp only [List.length_drop, List.length_take]; rfl)) ?_; (with_reducible refine (goscan_at.calls a0 x1_1 t212 _ A5.out).mono ?_); rintro e w' ⟨rfl, ⟨nd, rfl⟩⟩; refine ⟨_, rfl, ?_⟩))
     go_ret
     exact ⟨by first | rfl | (simp [errW_none, errW_some] <;> rfl) | (simp [*, errW_none, errW_some] <;> rfl), by repeat (first | (with_reducible first | exact HB.out | apply below_alloc | apply pw_below_drewN | apply below_drew1) | exact HB.out)⟩
    ·rw [if_neg c6] at H
     have c6b0 : (t212 == 34) = false := beq_eq_false_iff_ne.mpr c6
     have c6b1 : (t212 != 34) = true := bne_iff_ne.mpr c6
     replace H := Option.bind_eq_some_iff.mp H
     obtain ⟨t213, A70, H⟩ := H
     replace H : (if t213 < 0 then (some (-1)) else (goscan_quotedForm.l0 k1 a0 t213)) = some r := H
     have A7 := Aside0.mk A70
     clear A70
     by_cases c8 : t213 < 0
     ·rw [if_pos c8] at H
      have c8b0 : decide (t213 < 0) = true := decide_eq_true c8
      clear c8
      obtain rfl := Option.some.inj H
      go_wp2_with (first | ((with_reducible refine gate_callee (f := 90) rfl ?_); refine goesL_ (some 16) rfl rfl Try.func90 (by kernel_rfl) rfl #[.string a0, .int .i64 x1_1] rfl (by (try simp only [List.map_toArray, List.map_cons, List.map_nil]); first | done | rfl | (simp only [List.length_drop, List.length_take]; rfl)) ?_; (with_reducible refine (goscan_at.calls a0 x1_1 t212 _ A5.out).mono ?_); rintro e w' ⟨rfl, ⟨nd, rfl⟩⟩; refine ⟨_, rfl, ?_⟩) | ((with_reducible refine gate_callee (f := 99) rfl ?_); refine goesL_ (some 20) rfl rfl Try.func99 (by kernel_rfl) rfl #[.string a0, .int .i64 x1_1, .int .u8 34] rfl (by (try simp only [List.map_toArray, List.map_cons, List.map_nil]); first | done | rfl | (simp only [List.length_drop, List.length_take]; rfl)) ?_; (with_reducible refine (goscan_oneForm.calls k1 a0 x1_1 34 t213 _ A7.out).mono ?_); rintro e w9 ⟨rfl, hb⟩; refine ⟨_, rfl, ?_⟩; have n0_ := Aside0.mk (below_step (by repeat (first | (with_reducible first | exact HB.out | apply below_alloc | apply pw_below_drewN | apply below_drew1) | exact HB.out)) hb); clear HB; have HB := n0_; clear n0_; (try clear hb); (try clear hb2); (try clear hk); (try clear hi)))
      go_ret
      exact ⟨by first | rfl | (simp [errW_none, errW_some] <;> rfl) | (simp [*, errW_none, errW_some] <;> rfl), by repeat (first | (with_reducible first | exact HB.out | apply below_alloc | apply pw_below_drewN | apply below_drew1) | exact HB.out)⟩
     ·rw [if_neg c8] at H
      have c8b0 : decide (t213 < 0) = false := decide_eq_false c8
      clear c8
      have H' := Aside0.mk H
      clear H
      go_wp2_with (first | ((with_reducible refine gate_callee (f := 90) rfl ?_); refine goesL_ (some 16) rfl rfl Try.func90 (by kernel_rfl) rfl #[.string a0, .int .i64 x1_1] rfl (by (try simp only [List.map_toArray, List.map_cons, List.map_nil]); first | done | rfl | (simp only [List.length_drop, List.length_take]; rfl)) ?_; (with_reducible refine (goscan_at.calls a0 x1_1 t212 _ A5.out).mono ?_); rintro e w' ⟨rfl, ⟨nd, rfl⟩⟩; refine ⟨_, rfl, ?_⟩) | ((with_reducible refine gate_callee (f := 99) rfl ?_); refine goesL_ (some 20) rfl rfl Try.func99 (by kernel_rfl) rfl #[.string a0, .int .i64 x1_1, .int .u8 34] rfl (by (try simp only [List.map_toArray, List.map_cons, List.map_nil]); first | done | rfl | (simp only [List.length_drop, List.length_take]; rfl)) ?_; (with_reducible refine (goscan_oneForm.calls k1 a0 x1_1 34 t213 _ A7.out).mono ?_); rintro e w10 ⟨rfl, hb⟩; refine ⟨_, rfl, ?_⟩; have n0_ := Aside0.mk (below_step (by repeat (first | (with_reducible first | exact HB.out | apply below_alloc | apply pw_below_drewN | apply below_drew1) | exact HB.out)) hb); clear HB; have HB := n0_; clear n0_; (try clear hb); (try clear hb2); (try clear hk); (try clear hi)))
      go_roundg k1
      case measure => have := HK1.out; omega
      case rel => exact ⟨(t213), (by first | rfl | (simp; done) | (simp [*]; done) | (simp <;> omega) | rw [u32_tmod]), H', ⟨by have := HK1.out; omega⟩, ⟨by repeat (first | (with_reducible first | exact HB.out | apply below_alloc | apply pw_below_drewN | apply below_drew1) | exact HB.out)⟩⟩
 ·rw [if_neg c4] at H
  have c4b0 : (t211 == 34) = false := beq_eq_false_iff_ne.mpr c4
  have c4b1 : (t211 != 34) = true := bne_iff_ne.mpr c4
  by_cases c11 : t211 = 96
  ·rw [if_pos c11] at H
   have c11b0 : (t211 == 96) = true := beq_iff_eq.mpr c11
   have c11b1 : (t211 != 96) = false := bne_eq_false_iff_eq.mpr c11
   clear c11
   have H' := Aside0.mk H
   clear H
   go_enter Try.func76, Try.ntmps76
   go_wp2_with (first | ((with_reducible refine gate_callee (f := 90) rfl ?_); refine goesL_ (some 9) rfl rfl Try.func90 (by kernel_rfl) rfl #[.string a0, .int .i64 a1] rfl (by (try simp only [List.map_toArray, List.map_cons, List.map_nil]); first | done | rfl | (simp only [List.length_drop, List.length_take]; rfl)) ?_; (with_reducible refine (goscan_at.calls a0 a1 t211 _ A3.out).mono ?_); rintro e w' ⟨rfl, ⟨nd, rfl⟩⟩; refine ⟨_, rfl, ?_⟩))
   go_loopg [1] k (fun kq v1 w' => ∃ (x1_1 : Int), v1 = .int .i64 x1_1 ∧ Aside0 (goscan_quotedForm.l1 kq a0 x1_1 = some r) ∧ Aside0 (kq ≤ k) ∧ Aside0 (Below w.heap.size w w'))
   case atStart => exact ⟨(wrap64 (a1 + 1)), (by first | rfl | (simp; done) | (simp [*]; done) | (simp <;> omega) | rw [u32_tmod]), H', ⟨Nat.le_refl _⟩, ⟨by repeat (first | (with_reducible first | exact HB.out | apply below_alloc | apply pw_below_drewN | apply below_drew1) | exact HB.out)⟩⟩
   case round =>
    clear H'
    try clear c1
    try clear p2
    try clear c4
    try clear c4b0
    try clear c4b1
    try clear c6
    try clear c6b0
    try clear c6b1
    try clear p6
    try clear c7
    try clear c8
    try clear c8b0
    try clear c9
    try clear c11
    try clear c11b0
    try clear c11b1
    try clear p2
    obtain ⟨x1_1, rfl, HA, HK1, HB⟩ := hrel
    cases gk with
    | zero => exact absurd HA.out (by simp [goscan_quotedForm.l1])
    | succ k1 =>
     have H := HA.out
     clear HA
     simp only [goscan_quotedForm.l1] at H
     replace H := Option.bind_eq_some_iff.mp H
     obtain ⟨t214, A120, H⟩ := H
     replace H : (if t214 = 96 then (some (wrap64 (x1_1 + 1))) else ((goscan_plainRune.f a0 x1_1).bind fun bt215 => (if bt215.2 = 0 then (some (-1)) else (goscan_quotedForm.l1 k1 a0 (wrap64 (x1_1 + bt215.2)))))) = some r := H
     have A12 := Aside0.mk A120
     clear A120
     by_cases c13 : t214 = 96
     ·rw [if_pos c13] at H
      have c13b0 : (t214 == 96) = true := beq_iff_eq.mpr c13
      have c13b1 : (t214 != 96) = false := bne_eq_false_iff_eq.mpr c13
      clear c13
      obtain rfl := Option.some.inj H
      go_wp2_with (first | ((with_reducible refine gate_callee (f := 90) rfl ?_); refine goesL_ (some 31) rfl rfl Try.func90 (by kernel_rfl) rfl #[.string a0, .int .i64 x1_1] rfl (by (try simp only [List.map_toArray, List.map_cons, List.map_nil]); first | done | rfl | (simp only [List.length_drop, List.length_take]; rfl)) ?_; (with_reducible refine (goscan_at.calls a0 x1_1 t214 _ A12.out).mono ?_); rintro e w' ⟨rfl, ⟨nd, rfl⟩⟩; refine ⟨_, rfl, ?_⟩))
      go_ret
      exact ⟨by first | rfl | (simp [errW_none, errW_some] <;> rfl) | (simp [*, errW_none, errW_some] <;> rfl), by repeat (first | (with_reducible first | exact HB.out | apply below_alloc | apply pw_below_drewN | apply below_drew1) | exact HB.out)⟩
     ·rw [if_neg c13] at H
      have c13b0 : (t214 == 96) = false := beq_eq_false_iff_ne.mpr c13
      have c13b1 : (t214 != 96) = true := bne_iff_ne.mpr c13
      replace H := Option.bind_eq_some_iff.mp H
      obtain ⟨⟨t215, t216⟩, A140, H⟩ := H
      replace H : (if t216 = 0 then (some (-1)) else (goscan_quotedForm.l1 k1 a0 (wrap64 (x1_1 + t216)))) = some r := H
      have A14 := Aside0.mk A140
      clear A140
      by_cases c15 : t216 = 0
      ·rw [if_pos c15] at H
       have c15b0 : (t216 == 0) = true := beq_iff_eq.mpr c15
       have c15b1 : (t216 != 0) = false := bne_eq_false_iff_eq.mpr c15
       clear c15
       obtain rfl := Option.some.inj H
       go_wp2_with (first | ((with_reducible refine gate_callee (f := 90) rfl ?_); refine goesL_ (some 31) rfl rfl Try.func90 (by kernel_rfl) rfl #[.string a0, .int .i64 x1_1] rfl (by (try simp only [List.map_toArray, List.map_cons, List.map_nil]); first | done | rfl | (simp only [List.length_drop, List.length_take]; rfl)) ?_; (with_reducible refine (goscan_at.calls a0 x1_1 t214 _ A12.out).mono ?_); rintro e w' ⟨rfl, ⟨nd, rfl⟩⟩; refine ⟨_, rfl, ?_⟩) | ((with_reducible refine gate_callee (f := 91) rfl ?_); refine goesL_ (some 36) rfl rfl Try.func91 (by kernel_rfl) rfl #[.string a0, .int .i64 x1_1] rfl (by (try simp only [List.map_toArray, List.map_cons, List.map_nil]); first | done | rfl | (simp only [List.length_drop, List.length_take]; rfl)) ?_; (with_reducible refine (goscan_plainRune.calls a0 x1_1 t215 t216 _ A14.out).mono ?_); rintro e w16 ⟨rfl, hb⟩; refine ⟨_, rfl, ?_⟩; have n0_ := Aside0.mk (below_step (by repeat (first | (with_reducible first | exact HB.out | apply below_alloc | apply pw_below_drewN | apply below_drew1) | exact HB.out)) hb); clear HB; have HB := n0_; clear n0_; (try clear hb); (try clear hb2); (try clear hk); (try clear hi)))
       go_ret
       exact ⟨by first | rfl | (simp [errW_none, errW_some] <;> rfl) | (simp [*, errW_none, errW_some] <;> rfl), by repeat (first | (with_reducible first | exact HB.out | apply below_alloc | apply pw_below_drewN | apply below_drew1) | exact HB.out)⟩
      ·rw [if_neg c15] at H
       have c15b0 : (t216 == 0) = false := beq_eq_false_iff_ne.mpr c15
       have c15b1 : (t216 != 0) = true := bne_iff_ne.mpr c15
       have H' := Aside0.mk H
       clear H
       go_wp2_with (first | ((with_reducible refine gate_callee (f := 90) rfl ?_); refine goesL_ (some 31) rfl rfl Try.func90 (by kernel_rfl) rfl #[.string a0, .int .i64 x1_1] rfl (by (try simp only [List.map_toArray, List.map_cons, List.map_nil]); first | done | rfl | (simp only [List.length_drop, List.length_take]; rfl)) ?_; (with_reducible refine (goscan_at.calls a0 x1_1 t214 _ A12.out).mono ?_); rintro e w' ⟨rfl, ⟨nd, rfl⟩⟩; refine ⟨_, rfl, ?_⟩) | ((with_reducible refine gate_callee (f := 91) rfl ?_); refine goesL_ (some 36) rfl rfl Try.func91 (by kernel_rfl) rfl #[.string a0, .int .i64 x1_1] rfl (by (try simp only [List.map_toArray, List.map_cons, List.map_nil]); first | done | rfl | (simp only [List.length_drop, List.length_take]; rfl)) ?_; (with_reducible refine (goscan_plainRune.calls a0 x1_1 t215 t216 _ A14.out).mono ?_); rintro e w17 ⟨rfl, hb⟩; refine ⟨_, rfl, ?_⟩; have n0_ := Aside0.mk (below_step (by repeat (first | (with_reducible first | exact HB.out | apply below_alloc | apply pw_below_drewN | apply below_drew1) | exact HB.out)) hb); clear HB; have HB := n0_; clear n0_; (try clear hb); (try clear hb2); (try clear hk); (try clear hi)))
       go_roundg k1
       case measure => have := HK1.out; omega
       case rel => exact ⟨(wrap64 (x1_1 + t216)), (by first | rfl | (simp; done) | (simp [*]; done) | (simp <;> omega) | rw [u32_tmod]), H', ⟨by have := HK1.out; omega⟩, ⟨by repeat (first | (with_reducible first | exact HB.out | apply below_alloc | apply pw_below_drewN | apply below_drew1) | exact HB.out)⟩⟩
  ·rw [if_neg c11] at H
   have c11b0 : (t211 == 96) = false := beq_eq_false_iff_ne.mpr c11
   have c11b1 : (t211 != 96) = true := bne_iff_ne.mpr c11
   obtain rfl := Option.some.inj H
   go_enter Try.func76, Try.ntmps76
   go_wp2_with (first | ((with_reducible refine gate_callee (f := 90) rfl ?_); refine goesL_ (some 9) rfl rfl Try.func90 (by kernel_rfl) rfl #[.string a0, .int .i64 a1] rfl (by (try simp only [List.map_toArray, List.map_cons, List.map_nil]); first | done | rfl | (simp only [List.length_drop, List.length_take]; rfl)) ?_; (with_reducible refine (goscan_at.calls a0 a1 t211 _ A3.out).mono ?_); rintro e w' ⟨rfl, ⟨nd, rfl⟩⟩; refine ⟨_, rfl, ?_⟩))
   go_ret
   exact ⟨by first | rfl | (simp [errW_none, errW_some] <;> rfl) | (simp [*, errW_none, errW_some] <;> rfl), by repeat (first | (with_reducible first | exact HB.out | apply below_alloc | apply pw_below_drewN | apply below_drew1) | exact HB.out)⟩
def goscan_longest.pick : List Int → Int → Int × Int → Int × Int
 | [], _, s => s
 | n :: l, j, s => goscan_longest.pick l (j + 1) (if n > s.1 then (n, j) else s)
def goscan_longest.f (k : Nat) (a0 : ByteArray) (a1 : Int) : Option (Int × Int) := (goscan_blankForm.f k a0 a1).bind fun n0 => ((goscan_newlineForm.f a0 a1).bind fun n1 => ((goscan_remarkForm.f k a0 a1).bind fun n2 => ((goscan_commentForm.f k a0 a1).bind fun n3 => ((goscan_identForm.f k a0 a1).bind fun n4 => ((goscan_wholeForm.f k a0 a1).bind fun n5 => ((goscan_brokenForm.f k a0 a1).bind fun n6 => ((goscan_imagForm.f k a0 a1).bind fun n7 => ((goscan_charForm.f k a0 a1).bind fun n8 => ((goscan_quotedForm.f k a0 a1).bind fun n9 => (some (goscan_longest.pick [n0, n1, n2, n3, n4, n5, n6, n7, n8, n9] 0 (a1, -1))))))))))))
theorem goscan_longest.mono : ∀ a0 a1 k, LeO (goscan_longest.f k a0 a1) (goscan_longest.f (k + 1) a0 a1) := by
 intro a0 a1 k
 unfold goscan_longest.f
 repeat' first
   | exact goscan_blankForm.mono _ _ _
   | exact goscan_remarkForm.mono _ _ _
   | exact goscan_commentForm.mono _ _ _
   | exact goscan_identForm.mono _ _ _
   | exact goscan_wholeForm.mono _ _ _
   | exact goscan_brokenForm.mono _ _ _
   | exact goscan_imagForm.mono _ _ _
   | exact goscan_charForm.mono _ _ _
   | exact goscan_quotedForm.mono _ _ _
   | exact LeO.refl _
   | refine LeO.bind ?_ (fun _ => ?_)
theorem goscan_longest.step_yes {l : List Int} {n j s1 s2 : Int} {r : Int × Int} (hP : Aside0 (goscan_longest.pick (n :: l) j (s1, s2) = r)) (hn : n > s1) : Aside0 (goscan_longest.pick l (j + 1) (n, j) = r) := ⟨by have := hP.out; rw [goscan_longest.pick, if_pos hn] at this; exact this⟩
theorem goscan_longest.step_no {l : List Int} {n j s1 s2 : Int} {r : Int × Int} (hP : Aside0 (goscan_longest.pick (n :: l) j (s1, s2) = r)) (hn : ¬ n > s1) : Aside0 (goscan_longest.pick l (j + 1) (s1, s2) = r) := ⟨by have := hP.out; rw [goscan_longest.pick, if_neg hn] at this; exact this⟩
def goscan_longest.fns : List Value := [.func (.func 67) #[] #[], .func (.func 68) #[] #[], .func (.func 69) #[] #[], .func (.func 70) #[] #[], .func (.func 71) #[] #[], .func (.func 72) #[] #[], .func (.func 73) #[] #[], .func (.func 74) #[] #[], .func (.func 75) #[] #[], .func (.func 76) #[] #[]]
theorem goscan_longest.cellsAt {w wr : World} (h : ∀ i, i < 10 → wr.cell? ⟨w.heap.size, i, none⟩ = goscan_longest.fns[i]?) {w1 : World} (hlt : w.heap.size < wr.heap.size) (hb : Below wr.heap.size wr w1) : (∀ i, i < 10 → w1.cell? ⟨w.heap.size, i, none⟩ = goscan_longest.fns[i]?) ∧ w.heap.size < w1.heap.size :=
 ⟨fun i hi => (hb.cell (p := ⟨w.heap.size, i, none⟩) hlt).trans (h i hi), Nat.lt_of_lt_of_le hlt hb.size⟩
set_option maxHeartbeats 8000000 in
set_option maxRecDepth 100000 in
theorem goscan_longest.calls (k : Nat) (a0 : ByteArray) (a1 : Int) (r1 : Int) (r2 : Int) (w : World) (h : goscan_longest.f k a0 a1 = some (r1, r2)) :
  Calls Try.prog 47 #[.string a0, .int .i64 a1] w fun e w' => e = .returned (.tuple #[.int .i64 r1, .int .i64 r2]) ∧ Below w.heap.size w w' := by
 unfold goscan_longest.f at h
 obtain ⟨n0, A0, h⟩ := Option.bind_eq_some_iff.mp h
 have A0 := Aside0.mk A0
 obtain ⟨n1, A1, h⟩ := Option.bind_eq_some_iff.mp h
 have A1 := Aside0.mk A1
 obtain ⟨n2, A2, h⟩ := Option.bind_eq_some_iff.mp h
 have A2 := Aside0.mk A2
 obtain ⟨n3, A3, h⟩ := Option.bind_eq_some_iff.mp h
 have A3 := Aside0.mk A3
 obtain ⟨n4, A4, h⟩ := Option.bind_eq_some_iff.mp h
 have A4 := Aside0.mk A4
 obtain ⟨n5, A5, h⟩ := Option.bind_eq_some_iff.mp h
 have A5 := Aside0.mk A5
 obtain ⟨n6, A6, h⟩ := Option.bind_eq_some_iff.mp h
 have A6 := Aside0.mk A6
 obtain ⟨n7, A7, h⟩ := Option.bind_eq_some_iff.mp h
 have A7 := Aside0.mk A7
 obtain ⟨n8, A8, h⟩ := Option.bind_eq_some_iff.mp h
 have A8 := Aside0.mk A8
 obtain ⟨n9, A9, h⟩ := Option.bind_eq_some_iff.mp h
 have A9 := Aside0.mk A9
 have hP := Aside0.mk (Option.some.inj h)
 clear h
 go_enter Try.func47, Try.ntmps47
 go_wp2
 go_loopw [7, 8, 16] (fun e r i wr => ∃ (j : Nat) (s1 s2 : Int), j ≤ 10 ∧ i = .int .i64 j ∧ e = .int .i64 s1 ∧ r = .int .i64 s2 ∧ Aside0 (goscan_longest.pick ([n0, n1, n2, n3, n4, n5, n6, n7, n8, n9].drop j) j (s1, s2) = (r1, r2)) ∧ Aside0 (Below w.heap.size w wr) ∧ Aside0 ((∀ i, i < 10 → wr.cell? ⟨w.heap.size, i, none⟩ = goscan_longest.fns[i]?) ∧ w.heap.size < wr.heap.size)) (fun _ _ i _ => 10 - (intOf i).toNat)
 case atStart =>
  refine ⟨0, _, _, by omega, rfl, rfl, rfl, hP, ⟨(Below.refl _ _).alloc (Nat.le_refl _) _⟩, ⟨?_, by show w.heap.size < (w.heap.push _).size; rw [Array.size_push]; exact Nat.lt_succ_self _⟩⟩
  intro i hi
  rw [cell_of_row _ _ i _ _ (0, 0) (heap_alloc_last w _)]
  rcases (by omega : i = 0 ∨ i = 1 ∨ i = 2 ∨ i = 3 ∨ i = 4 ∨ i = 5 ∨ i = 6 ∨ i = 7 ∨ i = 8 ∨ i = 9) with rfl | rfl | rfl | rfl | rfl | rfl | rfl | rfl | rfl | rfl <;> rfl
 case round =>
  clear hP
  obtain ⟨j, s1, s2, hj, rfl, rfl, rfl, hP, hB, hC⟩ := hrel
  rcases (by omega : j = 0 ∨ j = 1 ∨ j = 2 ∨ j = 3 ∨ j = 4 ∨ j = 5 ∨ j = 6 ∨ j = 7 ∨ j = 8 ∨ j = 9 ∨ j = 10) with rfl | rfl | rfl | rfl | rfl | rfl | rfl | rfl | rfl | rfl | rfl
  ·have hc := (hC.out.1 0 (by omega)).trans (show goscan_longest.fns[0]? = some (.func (.func 67) #[] #[]) from rfl)
   by_cases hn : n0 > s1
   ·have hn' : decide (s1 < n0) = true := decide_eq_true hn
    have hP2 := Aside0.mk (show goscan_longest.pick ([n0, n1, n2, n3, n4, n5, n6, n7, n8, n9].drop (0 + 1)) ((0 + 1 : Nat) : Int) (n0, ((0 : Nat) : Int)) = (r1, r2) from (goscan_longest.step_yes (n := n0) (l := [n0, n1, n2, n3, n4, n5, n6, n7, n8, n9].drop (0 + 1)) hP hn).out)
    clear hP hn
    go_wp2_with (go_at_call 67; refine (goscan_blankForm.calls k a0 a1 n0 _ A0.out).mono ?_; rintro e w1 ⟨rfl, hb⟩; have hb := Aside0.mk (show Below wr.heap.size wr w1 from (by obtain ⟨nd, rfl⟩ := hb; exact pw_below_drewN (Below.refl _ _) nd)))
    go_roundw
    case rel => exact ⟨0 + 1, _, _, by omega, rfl, rfl, rfl, hP2, ⟨hB.out.trans (hb.out.mono hB.out.size)⟩, ⟨goscan_longest.cellsAt hC.out.1 hC.out.2 hb.out⟩⟩
    case measure => simp [intOf]
   ·have hn' : decide (s1 < n0) = false := decide_eq_false hn
    have hP2 := Aside0.mk (show goscan_longest.pick ([n0, n1, n2, n3, n4, n5, n6, n7, n8, n9].drop (0 + 1)) ((0 + 1 : Nat) : Int) (s1, s2) = (r1, r2) from (goscan_longest.step_no (n := n0) (l := [n0, n1, n2, n3, n4, n5, n6, n7, n8, n9].drop (0 + 1)) hP hn).out)
    clear hP hn
    go_wp2_with (go_at_call 67; refine (goscan_blankForm.calls k a0 a1 n0 _ A0.out).mono ?_; rintro e w1 ⟨rfl, hb⟩; have hb := Aside0.mk (show Below wr.heap.size wr w1 from (by obtain ⟨nd, rfl⟩ := hb; exact pw_below_drewN (Below.refl _ _) nd)))
    go_roundw
    case rel => exact ⟨0 + 1, _, _, by omega, rfl, rfl, rfl, hP2, ⟨hB.out.trans (hb.out.mono hB.out.size)⟩, ⟨goscan_longest.cellsAt hC.out.1 hC.out.2 hb.out⟩⟩
    case measure => simp [intOf]
  ·have hc := (hC.out.1 1 (by omega)).trans (show goscan_longest.fns[1]? = some (.func (.func 68) #[] #[]) from rfl)
   by_cases hn : n1 > s1
   ·have hn' : decide (s1 < n1) = true := decide_eq_true hn
    have hP2 := Aside0.mk (show goscan_longest.pick ([n0, n1, n2, n3, n4, n5, n6, n7, n8, n9].drop (1 + 1)) ((1 + 1 : Nat) : Int) (n1, ((1 : Nat) : Int)) = (r1, r2) from (goscan_longest.step_yes (n := n1) (l := [n0, n1, n2, n3, n4, n5, n6, n7, n8, n9].drop (1 + 1)) hP hn).out)
    clear hP hn
    go_wp2_with (go_at_call 68; refine (goscan_newlineForm.calls a0 a1 n1 _ A1.out).mono ?_; rintro e w1 ⟨rfl, hb⟩; have hb := Aside0.mk (show Below wr.heap.size wr w1 from (by obtain ⟨nd, rfl⟩ := hb; exact pw_below_drewN (Below.refl _ _) nd)))
    go_roundw
    case rel => exact ⟨1 + 1, _, _, by omega, rfl, rfl, rfl, hP2, ⟨hB.out.trans (hb.out.mono hB.out.size)⟩, ⟨goscan_longest.cellsAt hC.out.1 hC.out.2 hb.out⟩⟩
    case measure => simp [intOf]
   ·have hn' : decide (s1 < n1) = false := decide_eq_false hn
    have hP2 := Aside0.mk (show goscan_longest.pick ([n0, n1, n2, n3, n4, n5, n6, n7, n8, n9].drop (1 + 1)) ((1 + 1 : Nat) : Int) (s1, s2) = (r1, r2) from (goscan_longest.step_no (n := n1) (l := [n0, n1, n2, n3, n4, n5, n6, n7, n8, n9].drop (1 + 1)) hP hn).out)
    clear hP hn
    go_wp2_with (go_at_call 68; refine (goscan_newlineForm.calls a0 a1 n1 _ A1.out).mono ?_; rintro e w1 ⟨rfl, hb⟩; have hb := Aside0.mk (show Below wr.heap.size wr w1 from (by obtain ⟨nd, rfl⟩ := hb; exact pw_below_drewN (Below.refl _ _) nd)))
    go_roundw
    case rel => exact ⟨1 + 1, _, _, by omega, rfl, rfl, rfl, hP2, ⟨hB.out.trans (hb.out.mono hB.out.size)⟩, ⟨goscan_longest.cellsAt hC.out.1 hC.out.2 hb.out⟩⟩
    case measure => simp [intOf]
  ·have hc := (hC.out.1 2 (by omega)).trans (show goscan_longest.fns[2]? = some (.func (.func 69) #[] #[]) from rfl)
   by_cases hn : n2 > s1
   ·have hn' : decide (s1 < n2) = true := decide_eq_true hn
    have hP2 := Aside0.mk (show goscan_longest.pick ([n0, n1, n2, n3, n4, n5, n6, n7, n8, n9].drop (2 + 1)) ((2 + 1 : Nat) : Int) (n2, ((2 : Nat) : Int)) = (r1, r2) from (goscan_longest.step_yes (n := n2) (l := [n0, n1, n2, n3, n4, n5, n6, n7, n8, n9].drop (2 + 1)) hP hn).out)
    clear hP hn
    go_wp2_with (go_at_call 69; refine (goscan_remarkForm.calls k a0 a1 n2 _ A2.out).mono ?_; rintro e w1 ⟨rfl, hb⟩; have hb := Aside0.mk (show Below wr.heap.size wr w1 from hb))
    go_roundw
    case rel => exact ⟨2 + 1, _, _, by omega, rfl, rfl, rfl, hP2, ⟨hB.out.trans (hb.out.mono hB.out.size)⟩, ⟨goscan_longest.cellsAt hC.out.1 hC.out.2 hb.out⟩⟩
    case measure => simp [intOf]
   ·have hn' : decide (s1 < n2) = false := decide_eq_false hn
    have hP2 := Aside0.mk (show goscan_longest.pick ([n0, n1, n2, n3, n4, n5, n6, n7, n8, n9].drop (2 + 1)) ((2 + 1 : Nat) : Int) (s1, s2) = (r1, r2) from (goscan_longest.step_no (n := n2) (l := [n0, n1, n2, n3, n4, n5, n6, n7, n8, n9].drop (2 + 1)) hP hn).out)
    clear hP hn
    go_wp2_with (go_at_call 69; refine (goscan_remarkForm.calls k a0 a1 n2 _ A2.out).mono ?_; rintro e w1 ⟨rfl, hb⟩; have hb := Aside0.mk (show Below wr.heap.size wr w1 from hb))
    go_roundw
    case rel => exact ⟨2 + 1, _, _, by omega, rfl, rfl, rfl, hP2, ⟨hB.out.trans (hb.out.mono hB.out.size)⟩, ⟨goscan_longest.cellsAt hC.out.1 hC.out.2 hb.out⟩⟩
    case measure => simp [intOf]
  ·have hc := (hC.out.1 3 (by omega)).trans (show goscan_longest.fns[3]? = some (.func (.func 70) #[] #[]) from rfl)
   by_cases hn : n3 > s1
   ·have hn' : decide (s1 < n3) = true := decide_eq_true hn
    have hP2 := Aside0.mk (show goscan_longest.pick ([n0, n1, n2, n3, n4, n5, n6, n7, n8, n9].drop (3 + 1)) ((3 + 1 : Nat) : Int) (n3, ((3 : Nat) : Int)) = (r1, r2) from (goscan_longest.step_yes (n := n3) (l := [n0, n1, n2, n3, n4, n5, n6, n7, n8, n9].drop (3 + 1)) hP hn).out)
    clear hP hn
    go_wp2_with (go_at_call 70; refine (goscan_commentForm.calls k a0 a1 n3 _ A3.out).mono ?_; rintro e w1 ⟨rfl, hb⟩; have hb := Aside0.mk (show Below wr.heap.size wr w1 from hb))
    go_roundw
    case rel => exact ⟨3 + 1, _, _, by omega, rfl, rfl, rfl, hP2, ⟨hB.out.trans (hb.out.mono hB.out.size)⟩, ⟨goscan_longest.cellsAt hC.out.1 hC.out.2 hb.out⟩⟩
    case measure => simp [intOf]
   ·have hn' : decide (s1 < n3) = false := decide_eq_false hn
    have hP2 := Aside0.mk (show goscan_longest.pick ([n0, n1, n2, n3, n4, n5, n6, n7, n8, n9].drop (3 + 1)) ((3 + 1 : Nat) : Int) (s1, s2) = (r1, r2) from (goscan_longest.step_no (n := n3) (l := [n0, n1, n2, n3, n4, n5, n6, n7, n8, n9].drop (3 + 1)) hP hn).out)
    clear hP hn
    go_wp2_with (go_at_call 70; refine (goscan_commentForm.calls k a0 a1 n3 _ A3.out).mono ?_; rintro e w1 ⟨rfl, hb⟩; have hb := Aside0.mk (show Below wr.heap.size wr w1 from hb))
    go_roundw
    case rel => exact ⟨3 + 1, _, _, by omega, rfl, rfl, rfl, hP2, ⟨hB.out.trans (hb.out.mono hB.out.size)⟩, ⟨goscan_longest.cellsAt hC.out.1 hC.out.2 hb.out⟩⟩
    case measure => simp [intOf]
  ·have hc := (hC.out.1 4 (by omega)).trans (show goscan_longest.fns[4]? = some (.func (.func 71) #[] #[]) from rfl)
   by_cases hn : n4 > s1
   ·have hn' : decide (s1 < n4) = true := decide_eq_true hn
    have hP2 := Aside0.mk (show goscan_longest.pick ([n0, n1, n2, n3, n4, n5, n6, n7, n8, n9].drop (4 + 1)) ((4 + 1 : Nat) : Int) (n4, ((4 : Nat) : Int)) = (r1, r2) from (goscan_longest.step_yes (n := n4) (l := [n0, n1, n2, n3, n4, n5, n6, n7, n8, n9].drop (4 + 1)) hP hn).out)
    clear hP hn
    go_wp2_with (go_at_call 71; refine (goscan_identForm.calls k a0 a1 n4 _ A4.out).mono ?_; rintro e w1 ⟨rfl, hb⟩; have hb := Aside0.mk (show Below wr.heap.size wr w1 from hb))
    go_roundw
    case rel => exact ⟨4 + 1, _, _, by omega, rfl, rfl, rfl, hP2, ⟨hB.out.trans (hb.out.mono hB.out.size)⟩, ⟨goscan_longest.cellsAt hC.out.1 hC.out.2 hb.out⟩⟩
    case measure => simp [intOf]
   ·have hn' : decide (s1 < n4) = false := decide_eq_false hn
    have hP2 := Aside0.mk (show goscan_longest.pick ([n0, n1, n2, n3, n4, n5, n6, n7, n8, n9].drop (4 + 1)) ((4 + 1 : Nat) : Int) (s1, s2) = (r1, r2) from (goscan_longest.step_no (n := n4) (l := [n0, n1, n2, n3, n4, n5, n6, n7, n8, n9].drop (4 + 1)) hP hn).out)
    clear hP hn
    go_wp2_with (go_at_call 71; refine (goscan_identForm.calls k a0 a1 n4 _ A4.out).mono ?_; rintro e w1 ⟨rfl, hb⟩; have hb := Aside0.mk (show Below wr.heap.size wr w1 from hb))
    go_roundw
    case rel => exact ⟨4 + 1, _, _, by omega, rfl, rfl, rfl, hP2, ⟨hB.out.trans (hb.out.mono hB.out.size)⟩, ⟨goscan_longest.cellsAt hC.out.1 hC.out.2 hb.out⟩⟩
    case measure => simp [intOf]
  ·have hc := (hC.out.1 5 (by omega)).trans (show goscan_longest.fns[5]? = some (.func (.func 72) #[] #[]) from rfl)
   by_cases hn : n5 > s1
   ·have hn' : decide (s1 < n5) = true := decide_eq_true hn
    have hP2 := Aside0.mk (show goscan_longest.pick ([n0, n1, n2, n3, n4, n5, n6, n7, n8, n9].drop (5 + 1)) ((5 + 1 : Nat) : Int) (n5, ((5 : Nat) : Int)) = (r1, r2) from (goscan_longest.step_yes (n := n5) (l := [n0, n1, n2, n3, n4, n5, n6, n7, n8, n9].drop (5 + 1)) hP hn).out)
    clear hP hn
    go_wp2_with (go_at_call 72; refine (goscan_wholeForm.calls k a0 a1 n5 _ A5.out).mono ?_; rintro e w1 ⟨rfl, hb⟩; have hb := Aside0.mk (show Below wr.heap.size wr w1 from hb))
    go_roundw
    case rel => exact ⟨5 + 1, _, _, by omega, rfl, rfl, rfl, hP2, ⟨hB.out.trans (hb.out.mono hB.out.size)⟩, ⟨goscan_longest.cellsAt hC.out.1 hC.out.2 hb.out⟩⟩
    case measure => simp [intOf]
   ·have hn' : decide (s1 < n5) = false := decide_eq_false hn
    have hP2 := Aside0.mk (show goscan_longest.pick ([n0, n1, n2, n3, n4, n5, n6, n7, n8, n9].drop (5 + 1)) ((5 + 1 : Nat) : Int) (s1, s2) = (r1, r2) from (goscan_longest.step_no (n := n5) (l := [n0, n1, n2, n3, n4, n5, n6, n7, n8, n9].drop (5 + 1)) hP hn).out)
    clear hP hn
    go_wp2_with (go_at_call 72; refine (goscan_wholeForm.calls k a0 a1 n5 _ A5.out).mono ?_; rintro e w1 ⟨rfl, hb⟩; have hb := Aside0.mk (show Below wr.heap.size wr w1 from hb))
    go_roundw
    case rel => exact ⟨5 + 1, _, _, by omega, rfl, rfl, rfl, hP2, ⟨hB.out.trans (hb.out.mono hB.out.size)⟩, ⟨goscan_longest.cellsAt hC.out.1 hC.out.2 hb.out⟩⟩
    case measure => simp [intOf]
  ·have hc := (hC.out.1 6 (by omega)).trans (show goscan_longest.fns[6]? = some (.func (.func 73) #[] #[]) from rfl)
   by_cases hn : n6 > s1
   ·have hn' : decide (s1 < n6) = true := decide_eq_true hn
    have hP2 := Aside0.mk (show goscan_longest.pick ([n0, n1, n2, n3, n4, n5, n6, n7, n8, n9].drop (6 + 1)) ((6 + 1 : Nat) : Int) (n6, ((6 : Nat) : Int)) = (r1, r2) from (goscan_longest.step_yes (n := n6) (l := [n0, n1, n2, n3, n4, n5, n6, n7, n8, n9].drop (6 + 1)) hP hn).out)
    clear hP hn
    go_wp2_with (go_at_call 73; refine (goscan_brokenForm.calls k a0 a1 n6 _ A6.out).mono ?_; rintro e w1 ⟨rfl, hb⟩; have hb := Aside0.mk (show Below wr.heap.size wr w1 from hb))
    go_roundw
    case rel => exact ⟨6 + 1, _, _, by omega, rfl, rfl, rfl, hP2, ⟨hB.out.trans (hb.out.mono hB.out.size)⟩, ⟨goscan_longest.cellsAt hC.out.1 hC.out.2 hb.out⟩⟩
    case measure => simp [intOf]
   ·have hn' : decide (s1 < n6) = false := decide_eq_false hn
    have hP2 := Aside0.mk (show goscan_longest.pick ([n0, n1, n2, n3, n4, n5, n6, n7, n8, n9].drop (6 + 1)) ((6 + 1 : Nat) : Int) (s1, s2) = (r1, r2) from (goscan_longest.step_no (n := n6) (l := [n0, n1, n2, n3, n4, n5, n6, n7, n8, n9].drop (6 + 1)) hP hn).out)
    clear hP hn
    go_wp2_with (go_at_call 73; refine (goscan_brokenForm.calls k a0 a1 n6 _ A6.out).mono ?_; rintro e w1 ⟨rfl, hb⟩; have hb := Aside0.mk (show Below wr.heap.size wr w1 from hb))
    go_roundw
    case rel => exact ⟨6 + 1, _, _, by omega, rfl, rfl, rfl, hP2, ⟨hB.out.trans (hb.out.mono hB.out.size)⟩, ⟨goscan_longest.cellsAt hC.out.1 hC.out.2 hb.out⟩⟩
    case measure => simp [intOf]
  ·have hc := (hC.out.1 7 (by omega)).trans (show goscan_longest.fns[7]? = some (.func (.func 74) #[] #[]) from rfl)
   by_cases hn : n7 > s1
   ·have hn' : decide (s1 < n7) = true := decide_eq_true hn
    have hP2 := Aside0.mk (show goscan_longest.pick ([n0, n1, n2, n3, n4, n5, n6, n7, n8, n9].drop (7 + 1)) ((7 + 1 : Nat) : Int) (n7, ((7 : Nat) : Int)) = (r1, r2) from (goscan_longest.step_yes (n := n7) (l := [n0, n1, n2, n3, n4, n5, n6, n7, n8, n9].drop (7 + 1)) hP hn).out)
    clear hP hn
    go_wp2_with (go_at_call 74; refine (goscan_imagForm.calls k a0 a1 n7 _ A7.out).mono ?_; rintro e w1 ⟨rfl, hb⟩; have hb := Aside0.mk (show Below wr.heap.size wr w1 from hb))
    go_roundw
    case rel => exact ⟨7 + 1, _, _, by omega, rfl, rfl, rfl, hP2, ⟨hB.out.trans (hb.out.mono hB.out.size)⟩, ⟨goscan_longest.cellsAt hC.out.1 hC.out.2 hb.out⟩⟩
    case measure => simp [intOf]
   ·have hn' : decide (s1 < n7) = false := decide_eq_false hn
    have hP2 := Aside0.mk (show goscan_longest.pick ([n0, n1, n2, n3, n4, n5, n6, n7, n8, n9].drop (7 + 1)) ((7 + 1 : Nat) : Int) (s1, s2) = (r1, r2) from (goscan_longest.step_no (n := n7) (l := [n0, n1, n2, n3, n4, n5, n6, n7, n8, n9].drop (7 + 1)) hP hn).out)
    clear hP hn
    go_wp2_with (go_at_call 74; refine (goscan_imagForm.calls k a0 a1 n7 _ A7.out).mono ?_; rintro e w1 ⟨rfl, hb⟩; have hb := Aside0.mk (show Below wr.heap.size wr w1 from hb))
    go_roundw
    case rel => exact ⟨7 + 1, _, _, by omega, rfl, rfl, rfl, hP2, ⟨hB.out.trans (hb.out.mono hB.out.size)⟩, ⟨goscan_longest.cellsAt hC.out.1 hC.out.2 hb.out⟩⟩
    case measure => simp [intOf]
  ·have hc := (hC.out.1 8 (by omega)).trans (show goscan_longest.fns[8]? = some (.func (.func 75) #[] #[]) from rfl)
   by_cases hn : n8 > s1
   ·have hn' : decide (s1 < n8) = true := decide_eq_true hn
    have hP2 := Aside0.mk (show goscan_longest.pick ([n0, n1, n2, n3, n4, n5, n6, n7, n8, n9].drop (8 + 1)) ((8 + 1 : Nat) : Int) (n8, ((8 : Nat) : Int)) = (r1, r2) from (goscan_longest.step_yes (n := n8) (l := [n0, n1, n2, n3, n4, n5, n6, n7, n8, n9].drop (8 + 1)) hP hn).out)
    clear hP hn
    go_wp2_with (go_at_call 75; refine (goscan_charForm.calls k a0 a1 n8 _ A8.out).mono ?_; rintro e w1 ⟨rfl, hb⟩; have hb := Aside0.mk (show Below wr.heap.size wr w1 from hb))
    go_roundw
    case rel => exact ⟨8 + 1, _, _, by omega, rfl, rfl, rfl, hP2, ⟨hB.out.trans (hb.out.mono hB.out.size)⟩, ⟨goscan_longest.cellsAt hC.out.1 hC.out.2 hb.out⟩⟩
    case measure => simp [intOf]
   ·have hn' : decide (s1 < n8) = false := decide_eq_false hn
    have hP2 := Aside0.mk (show goscan_longest.pick ([n0, n1, n2, n3, n4, n5, n6, n7, n8, n9].drop (8 + 1)) ((8 + 1 : Nat) : Int) (s1, s2) = (r1, r2) from (goscan_longest.step_no (n := n8) (l := [n0, n1, n2, n3, n4, n5, n6, n7, n8, n9].drop (8 + 1)) hP hn).out)
    clear hP hn
    go_wp2_with (go_at_call 75; refine (goscan_charForm.calls k a0 a1 n8 _ A8.out).mono ?_; rintro e w1 ⟨rfl, hb⟩; have hb := Aside0.mk (show Below wr.heap.size wr w1 from hb))
    go_roundw
    case rel => exact ⟨8 + 1, _, _, by omega, rfl, rfl, rfl, hP2, ⟨hB.out.trans (hb.out.mono hB.out.size)⟩, ⟨goscan_longest.cellsAt hC.out.1 hC.out.2 hb.out⟩⟩
    case measure => simp [intOf]
  ·have hc := (hC.out.1 9 (by omega)).trans (show goscan_longest.fns[9]? = some (.func (.func 76) #[] #[]) from rfl)
   by_cases hn : n9 > s1
   ·have hn' : decide (s1 < n9) = true := decide_eq_true hn
    have hP2 := Aside0.mk (show goscan_longest.pick ([n0, n1, n2, n3, n4, n5, n6, n7, n8, n9].drop (9 + 1)) ((9 + 1 : Nat) : Int) (n9, ((9 : Nat) : Int)) = (r1, r2) from (goscan_longest.step_yes (n := n9) (l := [n0, n1, n2, n3, n4, n5, n6, n7, n8, n9].drop (9 + 1)) hP hn).out)
    clear hP hn
    go_wp2_with (go_at_call 76; refine (goscan_quotedForm.calls k a0 a1 n9 _ A9.out).mono ?_; rintro e w1 ⟨rfl, hb⟩; have hb := Aside0.mk (show Below wr.heap.size wr w1 from hb))
    go_roundw
    case rel => exact ⟨9 + 1, _, _, by omega, rfl, rfl, rfl, hP2, ⟨hB.out.trans (hb.out.mono hB.out.size)⟩, ⟨goscan_longest.cellsAt hC.out.1 hC.out.2 hb.out⟩⟩
    case measure => simp [intOf]
   ·have hn' : decide (s1 < n9) = false := decide_eq_false hn
    have hP2 := Aside0.mk (show goscan_longest.pick ([n0, n1, n2, n3, n4, n5, n6, n7, n8, n9].drop (9 + 1)) ((9 + 1 : Nat) : Int) (s1, s2) = (r1, r2) from (goscan_longest.step_no (n := n9) (l := [n0, n1, n2, n3, n4, n5, n6, n7, n8, n9].drop (9 + 1)) hP hn).out)
    clear hP hn
    go_wp2_with (go_at_call 76; refine (goscan_quotedForm.calls k a0 a1 n9 _ A9.out).mono ?_; rintro e w1 ⟨rfl, hb⟩; have hb := Aside0.mk (show Below wr.heap.size wr w1 from hb))
    go_roundw
    case rel => exact ⟨9 + 1, _, _, by omega, rfl, rfl, rfl, hP2, ⟨hB.out.trans (hb.out.mono hB.out.size)⟩, ⟨goscan_longest.cellsAt hC.out.1 hC.out.2 hb.out⟩⟩
    case measure => simp [intOf]
  ·obtain ⟨rfl, rfl⟩ := Prod.mk.inj (show (s1, s2) = (r1, r2) from hP.out)
   clear hP
   go_wp2
   go_ret2
   exact ⟨rfl, hB.out⟩
end Go.Proofs.Ytcajiapjdlphmaa.H
