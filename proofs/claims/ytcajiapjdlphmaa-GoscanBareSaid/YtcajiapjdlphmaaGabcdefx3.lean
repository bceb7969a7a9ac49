import Derived.Test.YtcajiapjdlphmaaGPre
import Derived.Test.YtcajiapjdlphmaaGabcdefx0
import Derived.Test.YtcajiapjdlphmaaGabcdefx1
import Derived.Test.YtcajiapjdlphmaaGabcdefx2
namespace Go.Proofs.Ytcajiapjdlphmaa.H
open Go.RowKit Go.Proofs.YtcajiapjdlphmaaW.PrintWords Go.Proofs.YtcajiapjdlphmaaW.PrintLast Go.Proofs.YtcajiapjdlphmaaW.PrintMore
attribute [local go_sem] max2_int min2_int max_two min_two max_three min_three max_four min_four
set_option linter.unusedVariables false
set_option linter.unusedSimpArgs false
mutual
def goscan_hexForm.j0 : Nat → ByteArray → Int → Bool → Option (Int)
 | 0, _, _, _ => none
 | k + 1, x0, x1, x16 => if x16 = true then (some (-1)) else ((goscan_more.f k x0 (wrap64 (x1 + 2)) 16).bind fun t168 => (if t168 > (wrap64 (x1 + 2)) then ((goscan_at.f x0 t168).bind fun t169 => (goscan_hexForm.j1 k x0 (wrap64 (x1 + 2)) t168 (t169 == 46))) else (goscan_hexForm.j1 k x0 (wrap64 (x1 + 2)) t168 false)))
def goscan_hexForm.j1 : Nat → ByteArray → Int → Int → Bool → Option (Int)
 | 0, _, _, _, _ => none
 | k + 1, x0, x1, x5, x22 => if x22 = true then ((goscan_number.f k x0 (wrap64 (x5 + 1)) 16).bind fun t170 => (if (mx (wrap64 (x5 + 1)) t170) < 0 then (some (-1)) else ((goscan_powerForm.f k x0 (mx (wrap64 (x5 + 1)) t170) 112 80).bind fun t171 => (some t171)))) else (if x5 = x1 then ((goscan_at.f x0 x1).bind fun t172 => (if t172 = 46 then ((goscan_number.f k x0 (wrap64 (x1 + 1)) 16).bind fun t173 => (if t173 < 0 then (some (-1)) else ((goscan_powerForm.f k x0 t173 112 80).bind fun t174 => (some t174)))) else (some (-1)))) else (if x5 < 0 then (some (-1)) else ((goscan_powerForm.f k x0 x5 112 80).bind fun t175 => (some t175))))
end
def goscan_hexForm.f (k : Nat) (a0 : ByteArray) (a1 : Int) : Option (Int) := (goscan_at.f a0 a1).bind fun t166 => (if t166 = 48 then ((goscan_is.f a0 (wrap64 (a1 + 1)) 120 88).bind fun t167 => (goscan_hexForm.j0 k a0 a1 (!t167))) else (goscan_hexForm.j0 k a0 a1 true))
theorem goscan_hexForm.mono_l : ∀ k, (∀ y0 y1 y2, LeO (goscan_hexForm.j0 k y0 y1 y2) (goscan_hexForm.j0 (k + 1) y0 y1 y2)) ∧ (∀ y0 y1 y2 y3, LeO (goscan_hexForm.j1 k y0 y1 y2 y3) (goscan_hexForm.j1 (k + 1) y0 y1 y2 y3))
 | 0 => ⟨fun _ _ _ r h => by simp [goscan_hexForm.j0] at h, fun _ _ _ _ r h => by simp [goscan_hexForm.j1] at h⟩
 | k + 1 => by
  obtain ⟨ih0, ih1⟩ := goscan_hexForm.mono_l k
  refine ⟨?_, ?_⟩
  ·intro y0 y1 y2
   unfold goscan_hexForm.j0
   repeat' first
   | (with_reducible exact ih0 _ _ _)
   | (with_reducible exact ih1 _ _ _ _)
   | (with_reducible exact goscan_more.mono _ _ _ _)
   | (with_reducible exact goscan_number.mono _ _ _ _)
   | (with_reducible exact goscan_powerForm.mono _ _ _ _ _)
   | (with_reducible exact LeO.refl _)
   | (with_reducible exact LeO.none _)
   | (with_reducible refine LeO.ite ?_ ?_)
   | (with_reducible refine LeO.bind ?_ (fun _ => ?_))
   | exact ih0 _ _ _
   | exact ih1 _ _ _ _
   | exact goscan_more.mono _ _ _ _
   | exact goscan_number.mono _ _ _ _
   | exact goscan_powerForm.mono _ _ _ _ _
   | exact LeO.none _
   | refine LeO.ite ?_ ?_
   | refine LeO.bind ?_ (fun _ => ?_)
  ·intro y0 y1 y2 y3
   unfold goscan_hexForm.j1
   repeat' first
   | (with_reducible exact ih0 _ _ _)
   | (with_reducible exact ih1 _ _ _ _)
   | (with_reducible exact goscan_more.mono _ _ _ _)
   | (with_reducible exact goscan_number.mono _ _ _ _)
   | (with_reducible exact goscan_powerForm.mono _ _ _ _ _)
   | (with_reducible exact LeO.refl _)
   | (with_reducible exact LeO.none _)
   | (with_reducible refine LeO.ite ?_ ?_)
   | (with_reducible refine LeO.bind ?_ (fun _ => ?_))
   | exact ih0 _ _ _
   | exact ih1 _ _ _ _
   | exact goscan_more.mono _ _ _ _
   | exact goscan_number.mono _ _ _ _
   | exact goscan_powerForm.mono _ _ _ _ _
   | exact LeO.none _
   | refine LeO.ite ?_ ?_
   | refine LeO.bind ?_ (fun _ => ?_)
theorem goscan_hexForm.mono : ∀ a0 a1 k, LeO (goscan_hexForm.f k a0 a1) (goscan_hexForm.f (k + 1) a0 a1) := by
 intro a0 a1 k
 obtain ⟨ih0, ih1⟩ := goscan_hexForm.mono_l k
 unfold goscan_hexForm.f
 repeat' first
   | (with_reducible exact ih0 _ _ _)
   | (with_reducible exact ih1 _ _ _ _)
   | (with_reducible exact goscan_more.mono _ _ _ _)
   | (with_reducible exact goscan_number.mono _ _ _ _)
   | (with_reducible exact goscan_powerForm.mono _ _ _ _ _)
   | (with_reducible exact LeO.refl _)
   | (with_reducible exact LeO.none _)
   | (with_reducible refine LeO.ite ?_ ?_)
   | (with_reducible refine LeO.bind ?_ (fun _ => ?_))
   | exact ih0 _ _ _
   | exact ih1 _ _ _ _
   | exact goscan_more.mono _ _ _ _
   | exact goscan_number.mono _ _ _ _
   | exact goscan_powerForm.mono _ _ _ _ _
   | exact LeO.none _
   | refine LeO.ite ?_ ?_
   | refine LeO.bind ?_ (fun _ => ?_)
set_option maxHeartbeats 8000000 in
set_option maxRecDepth 100000 in
theorem goscan_hexForm.calls (k : Nat) (a0 : ByteArray) (a1 : Int) (r : Int) (w : World) (h : goscan_hexForm.f k a0 a1 = some r) :
  Calls Try.prog 98 #[.string a0, .int .i64 a1] w fun e w' => e = .returned (.int .i64 r) ∧ Below w.heap.size w w' := by
 have HB := Aside0.mk (Below.refl w.heap.size w)
 have H : ((goscan_at.f a0 a1).bind fun t166 => (if t166 = 48 then ((goscan_is.f a0 (wrap64 (a1 + 1)) 120 88).bind fun t167 => (goscan_hexForm.j0 k a0 a1 (!t167))) else (goscan_hexForm.j0 k a0 a1 true))) = some r := h
 clear h
 have HC3 := Aside0.mk H
 clear H
 go_enter Try.func98, Try.ntmps98
 go_upto_region 1 with (fail)
 go_cut [16] (fun v16 wc => ∃ (kq : Nat) (x16_2 : Bool), v16 = .bool x16_2 ∧ Aside0 (goscan_hexForm.j0 kq a0 a1 x16_2 = some r) ∧ Aside0 (kq ≤ k) ∧ Aside0 (Below w.heap.size w wc))
 case first =>
  have H := HC3.out
  clear HC3
  replace H := Option.bind_eq_some_iff.mp H
  obtain ⟨t166, A40, H⟩ := H
  replace H : (if t166 = 48 then ((goscan_is.f a0 (wrap64 (a1 + 1)) 120 88).bind fun t167 => (goscan_hexForm.j0 k a0 a1 (!t167))) else (goscan_hexForm.j0 k a0 a1 true)) = some r := H
  have A4 := Aside0.mk A40
  clear A40
  by_cases c5 : t166 = 48
  ·rw [if_pos c5] at H
   have c5b0 : (t166 == 48) = true := beq_iff_eq.mpr c5
   have c5b1 : (t166 != 48) = false := bne_eq_false_iff_eq.mpr c5
   clear c5
   (first | rw [c5b0] | (simp only [i64_w, i32_w]; rw [c5b0]) | skip)
   replace H := Option.bind_eq_some_iff.mp H
   obtain ⟨t167, A60, H⟩ := H
   replace H : (goscan_hexForm.j0 k a0 a1 (!t167)) = some r := H
   have A6 := Aside0.mk A60
   clear A60
   have H' := Aside0.mk H
   clear H
   go_wp2_with (first | ((with_reducible refine gate_callee (f := 90) rfl ?_); refine goesL_ (some 8) rfl rfl Try.func90 (by kernel_rfl) rfl #[.string a0, .int .i64 a1] rfl (by (try simp only [List.map_toArray, List.map_cons, List.map_nil]); first | done | rfl | (simp only [List.length_drop, List.length_take]; rfl)) ?_; (with_reducible refine (goscan_at.calls a0 a1 t166 _ A4.out).mono ?_); rintro e w' ⟨rfl, ⟨nd, rfl⟩⟩; refine ⟨_, rfl, ?_⟩) | (go_at_call 95; (with_reducible refine (goscan_is.calls a0 (wrap64 (a1 + 1)) 120 88 t167 _ A6.out).mono ?_); rintro e w' ⟨rfl, ⟨nd, rfl⟩⟩))
   go_meet
   case rel => exact ⟨_, (!t167), (by first | rfl | (simp; done) | (simp [*]; done) | (simp <;> omega) | rw [u32_tmod]), H', ⟨by first | omega | exact Nat.le_refl _⟩, ⟨by repeat (first | (with_reducible first | exact HB.out | apply below_alloc | apply pw_below_drewN | apply below_drew1) | exact HB.out)⟩⟩
  ·rw [if_neg c5] at H
   have c5b0 : (t166 == 48) = false := beq_eq_false_iff_ne.mpr c5
   have c5b1 : (t166 != 48) = true := bne_iff_ne.mpr c5
   (first | rw [c5b0] | (simp only [i64_w, i32_w]; rw [c5b0]) | skip)
   have H' := Aside0.mk H
   clear H
   go_wp2_with (first | ((with_reducible refine gate_callee (f := 90) rfl ?_); refine goesL_ (some 8) rfl rfl Try.func90 (by kernel_rfl) rfl #[.string a0, .int .i64 a1] rfl (by (try simp only [List.map_toArray, List.map_cons, List.map_nil]); first | done | rfl | (simp only [List.length_drop, List.length_take]; rfl)) ?_; (with_reducible refine (goscan_at.calls a0 a1 t166 _ A4.out).mono ?_); rintro e w' ⟨rfl, ⟨nd, rfl⟩⟩; refine ⟨_, rfl, ?_⟩))
   go_meet
   case rel => exact ⟨_, (true), (by first | rfl | (simp; done) | (simp [*]; done) | (simp <;> omega) | rw [u32_tmod]), H', ⟨by first | omega | exact Nat.le_refl _⟩, ⟨by repeat (first | (with_reducible first | exact HB.out | apply below_alloc | apply pw_below_drewN | apply below_drew1) | exact HB.out)⟩⟩
 case rest =>
  clear HC3
  try clear p2
  try clear c5
  try clear c5b0
  try clear c5b1
  try clear p6
  obtain ⟨kq, x16_2, rfl, HA, HJ2, HB⟩ := hcut
  cases kq with
  | zero => exact absurd HA.out (by simp [goscan_hexForm.j0])
  | succ kj2 =>
   have H := HA.out
   clear HA
   simp only [goscan_hexForm.j0] at H
   by_cases c7 : x16_2 = true
   ·subst c7
    have H1 : (some (-1)) = some r := by rw [if_pos rfl] at H; exact H
    clear H
    have H := H1
    clear H1
    obtain rfl := Option.some.inj H
    go_wp2
    go_ret
    exact ⟨by first | rfl | (simp [errW_none, errW_some] <;> rfl) | (simp [*, errW_none, errW_some] <;> rfl), by repeat (first | (with_reducible first | exact HB.out | apply below_alloc | apply pw_below_drewN | apply below_drew1) | exact HB.out)⟩
   ·replace c7 := Bool.eq_false_iff.mpr c7
    subst c7
    have H1 : ((goscan_more.f kj2 a0 (wrap64 (a1 + 2)) 16).bind fun t168 => (if t168 > (wrap64 (a1 + 2)) then ((goscan_at.f a0 t168).bind fun t169 => (goscan_hexForm.j1 kj2 a0 (wrap64 (a1 + 2)) t168 (t169 == 46))) else (goscan_hexForm.j1 kj2 a0 (wrap64 (a1 + 2)) t168 false))) = some r := by rw [if_neg (show ¬ (false = true) by decide)] at H; exact H
    clear H
    have H := H1
    clear H1
    replace H := Option.bind_eq_some_iff.mp H
    obtain ⟨t168, A80, H⟩ := H
    replace H : (if t168 > (wrap64 (a1 + 2)) then ((goscan_at.f a0 t168).bind fun t169 => (goscan_hexForm.j1 kj2 a0 (wrap64 (a1 + 2)) t168 (t169 == 46))) else (goscan_hexForm.j1 kj2 a0 (wrap64 (a1 + 2)) t168 false)) = some r := H
    have A8 := Aside0.mk A80
    clear A80
    have HC9 := Aside0.mk H
    clear H
    go_upto_region 5 with (first | ((with_reducible refine gate_callee (f := 94) rfl ?_); refine goesL_ (some 21) rfl rfl Try.func94 (by kernel_rfl) rfl #[.string a0, .int .i64 (wrap64 (a1 + 2)), .int .i64 16] rfl (by (try simp only [List.map_toArray, List.map_cons, List.map_nil]); first | done | rfl | (simp only [List.length_drop, List.length_take]; rfl)) ?_; (with_reducible refine (goscan_more.calls kj2 a0 (wrap64 (a1 + 2)) 16 t168 _ A8.out).mono ?_); rintro e w' ⟨rfl, ⟨nd, rfl⟩⟩; refine ⟨_, rfl, ?_⟩))
    (try simp only [Act.put, List.setIfInBounds_toArray, List.set_cons_zero, List.set_cons_succ])
    go_cut [22] (fun v22 wc => ∃ (kq : Nat) (x22_8 : Bool), v22 = .bool x22_8 ∧ Aside0 (goscan_hexForm.j1 kq a0 (wrap64 (a1 + 2)) t168 x22_8 = some r) ∧ Aside0 (kq ≤ kj2) ∧ Aside0 (Below w.heap.size w wc))
    case first =>
     have H := HC9.out
     clear HC9
     by_cases c10 : t168 > (wrap64 (a1 + 2))
     ·rw [if_pos c10] at H
      have c10b0 : decide ((wrap64 (a1 + 2)) < t168) = true := decide_eq_true c10
      clear c10
      (first | rw [c10b0] | (simp only [i64_w, i32_w]; rw [c10b0]) | skip)
      replace H := Option.bind_eq_some_iff.mp H
      obtain ⟨t169, A110, H⟩ := H
      replace H : (goscan_hexForm.j1 kj2 a0 (wrap64 (a1 + 2)) t168 (t169 == 46)) = some r := H
      have A11 := Aside0.mk A110
      clear A110
      have H' := Aside0.mk H
      clear H
      go_wp2_with (first | (go_at_call 90; (with_reducible refine (goscan_at.calls a0 t168 t169 _ A11.out).mono ?_); rintro e w' ⟨rfl, ⟨nd, rfl⟩⟩))
      go_meet
      case rel => exact ⟨_, ((t169 == 46)), (by first | rfl | (simp; done) | (simp [*]; done) | (simp <;> omega) | rw [u32_tmod]), H', ⟨by have := HJ2.out; first | omega | exact Nat.le_refl _⟩, ⟨by repeat (first | (with_reducible first | exact HB.out | apply below_alloc | apply pw_below_drewN | apply below_drew1) | exact HB.out)⟩⟩
     ·rw [if_neg c10] at H
      have c10b0 : decide ((wrap64 (a1 + 2)) < t168) = false := decide_eq_false c10
      clear c10
      (first | rw [c10b0] | (simp only [i64_w, i32_w]; rw [c10b0]) | skip)
      have H' := Aside0.mk H
      clear H
      go_wp2
      go_meet
      case rel => exact ⟨_, (false), (by first | rfl | (simp; done) | (simp [*]; done) | (simp <;> omega) | rw [u32_tmod]), H', ⟨by have := HJ2.out; first | omega | exact Nat.le_refl _⟩, ⟨by repeat (first | (with_reducible first | exact HB.out | apply below_alloc | apply pw_below_drewN | apply below_drew1) | exact HB.out)⟩⟩
    case rest =>
     clear HC9
     try clear c1
     try clear p2
     try clear c5
     try clear c5b0
     try clear c5b1
     try clear p6
     try clear c7
     try clear c9
     try clear c10
     try clear c10b0
     try clear p2
     try clear p6
     obtain ⟨kq, x22_8, rfl, HA, HJ8, HB⟩ := hcut
     cases kq with
     | zero => exact absurd HA.out (by simp [goscan_hexForm.j1])
     | succ kj8 =>
      have H := HA.out
      clear HA
      simp only [goscan_hexForm.j1] at H
      by_cases c12 : x22_8 = true
      ·subst c12
       have H1 : ((goscan_number.f kj8 a0 (wrap64 (t168 + 1)) 16).bind fun t170 => (if (mx (wrap64 (t168 + 1)) t170) < 0 then (some (-1)) else ((goscan_powerForm.f kj8 a0 (mx (wrap64 (t168 + 1)) t170) 112 80).bind fun t171 => (some t171)))) = some r := by rw [if_pos rfl] at H; exact H
       clear H
       have H := H1
       clear H1
       replace H := Option.bind_eq_some_iff.mp H
       obtain ⟨t170, A130, H⟩ := H
       replace H : (if (mx (wrap64 (t168 + 1)) t170) < 0 then (some (-1)) else ((goscan_powerForm.f kj8 a0 (mx (wrap64 (t168 + 1)) t170) 112 80).bind fun t171 => (some t171))) = some r := H
       have A13 := Aside0.mk A130
       clear A130
       obtain ⟨ji14, hji14⟩ : ∃ j_ : Int, (mx (wrap64 (t168 + 1)) t170) = j_ := ⟨_, rfl⟩
       replace H : (if (ji14) < 0 then (some (-1)) else ((goscan_powerForm.f kj8 a0 (ji14) 112 80).bind fun t171 => (some t171))) = some r := by first | (rw [hji14] at H; exact H) | (simp only [hji14] at H ⊢; exact H)
       (try rw [hji14] at A13)
       have hji14_ : (if (wrap64 (t168 + 1)) < t170 then t170 else (wrap64 (t168 + 1))) = ji14 := hji14
       by_cases c15 : (ji14) < 0
       ·rw [if_pos c15] at H
        have c15b0 : decide ((ji14) < 0) = true := decide_eq_true c15
        clear c15
        obtain rfl := Option.some.inj H
        go_wp2_with (first | ((with_reducible refine gate_callee (f := 96) rfl ?_); refine goesL_ (some 37) rfl rfl Try.func96 (by kernel_rfl) rfl #[.string a0, .int .i64 (wrap64 (t168 + 1)), .int .i64 16] rfl (by (try simp only [List.map_toArray, List.map_cons, List.map_nil]); first | done | rfl | (simp only [List.length_drop, List.length_take]; rfl)) ?_; (with_reducible refine (goscan_number.calls kj8 a0 (wrap64 (t168 + 1)) 16 t170 _ A13.out).mono ?_); rintro e w' ⟨rfl, ⟨nd, rfl⟩⟩; refine ⟨_, rfl, ?_⟩))
        go_ret
        exact ⟨by first | rfl | (simp [errW_none, errW_some] <;> rfl) | (simp only [← hji14]; first | rfl | (simp [errW_none, errW_some] <;> rfl)) | (simp [*, errW_none, errW_some] <;> rfl), by repeat (first | (with_reducible first | exact HB.out | apply below_alloc | apply pw_below_drewN | apply below_drew1) | exact HB.out)⟩
       ·rw [if_neg c15] at H
        have c15b0 : decide ((ji14) < 0) = false := decide_eq_false c15
        clear c15
        replace H := Option.bind_eq_some_iff.mp H
        obtain ⟨t171, A160, H⟩ := H
        replace H : (some t171) = some r := H
        have A16 := Aside0.mk A160
        clear A160
        obtain rfl := Option.some.inj H
        go_wp2_with (first | ((with_reducible refine gate_callee (f := 96) rfl ?_); refine goesL_ (some 37) rfl rfl Try.func96 (by kernel_rfl) rfl #[.string a0, .int .i64 (wrap64 (t168 + 1)), .int .i64 16] rfl (by (try simp only [List.map_toArray, List.map_cons, List.map_nil]); first | done | rfl | (simp only [List.length_drop, List.length_take]; rfl)) ?_; (with_reducible refine (goscan_number.calls kj8 a0 (wrap64 (t168 + 1)) 16 t170 _ A13.out).mono ?_); rintro e w' ⟨rfl, ⟨nd, rfl⟩⟩; refine ⟨_, rfl, ?_⟩) | ((with_reducible refine gate_callee (f := 97) rfl ?_); refine goesL_ (some 55) rfl rfl Try.func97 (by kernel_rfl) rfl #[.string a0, .int .i64 ji14, .int .u8 112, .int .u8 80] rfl (by (try simp only [List.map_toArray, List.map_cons, List.map_nil]); first | done | (simp only [hji14]; rfl) | rfl | (simp only [List.length_drop, List.length_take]; rfl)) ?_; (with_reducible refine (goscan_powerForm.calls kj8 a0 ji14 112 80 t171 _ A16.out).mono ?_); rintro e w' ⟨rfl, ⟨nd, rfl⟩⟩; refine ⟨_, rfl, ?_⟩))
        go_ret
        exact ⟨by first | rfl | (simp [errW_none, errW_some] <;> rfl) | (simp only [← hji14]; first | rfl | (simp [errW_none, errW_some] <;> rfl)) | (simp [*, errW_none, errW_some] <;> rfl), by repeat (first | (with_reducible first | exact HB.out | apply below_alloc | apply pw_below_drewN | apply below_drew1) | exact HB.out)⟩
      ·replace c12 := Bool.eq_false_iff.mpr c12
       subst c12
       have H1 : (if t168 = (wrap64 (a1 + 2)) then ((goscan_at.f a0 (wrap64 (a1 + 2))).bind fun t172 => (if t172 = 46 then ((goscan_number.f kj8 a0 (wrap64 ((wrap64 (a1 + 2)) + 1)) 16).bind fun t173 => (if t173 < 0 then (some (-1)) else ((goscan_powerForm.f kj8 a0 t173 112 80).bind fun t174 => (some t174)))) else (some (-1)))) else (if t168 < 0 then (some (-1)) else ((goscan_powerForm.f kj8 a0 t168 112 80).bind fun t175 => (some t175)))) = some r := by rw [if_neg (show ¬ (false = true) by decide)] at H; exact H
       clear H
       have H := H1
       clear H1
       by_cases c17 : t168 = (wrap64 (a1 + 2))
       ·rw [if_pos c17] at H
        have c17b0 : (t168 == (wrap64 (a1 + 2))) = true := beq_iff_eq.mpr c17
        have c17b1 : (t168 != (wrap64 (a1 + 2))) = false := bne_eq_false_iff_eq.mpr c17
        clear c17
        replace H := Option.bind_eq_some_iff.mp H
        obtain ⟨t172, A180, H⟩ := H
        replace H : (if t172 = 46 then ((goscan_number.f kj8 a0 (wrap64 ((wrap64 (a1 + 2)) + 1)) 16).bind fun t173 => (if t173 < 0 then (some (-1)) else ((goscan_powerForm.f kj8 a0 t173 112 80).bind fun t174 => (some t174)))) else (some (-1))) = some r := H
        have A18 := Aside0.mk A180
        clear A180
        by_cases c19 : t172 = 46
        ·rw [if_pos c19] at H
         have c19b0 : (t172 == 46) = true := beq_iff_eq.mpr c19
         have c19b1 : (t172 != 46) = false := bne_eq_false_iff_eq.mpr c19
         clear c19
         replace H := Option.bind_eq_some_iff.mp H
         obtain ⟨t173, A200, H⟩ := H
         replace H : (if t173 < 0 then (some (-1)) else ((goscan_powerForm.f kj8 a0 t173 112 80).bind fun t174 => (some t174))) = some r := H
         have A20 := Aside0.mk A200
         clear A200
         by_cases c21 : t173 < 0
         ·rw [if_pos c21] at H
          have c21b0 : decide (t173 < 0) = true := decide_eq_true c21
          clear c21
          obtain rfl := Option.some.inj H
          go_wp2_with (first | ((with_reducible refine gate_callee (f := 90) rfl ?_); refine goesL_ (some 45) rfl rfl Try.func90 (by kernel_rfl) rfl #[.string a0, .int .i64 (wrap64 (a1 + 2))] rfl (by (try simp only [List.map_toArray, List.map_cons, List.map_nil]); first | done | rfl | (simp only [List.length_drop, List.length_take]; rfl)) ?_; (with_reducible refine (goscan_at.calls a0 (wrap64 (a1 + 2)) t172 _ A18.out).mono ?_); rintro e w' ⟨rfl, ⟨nd, rfl⟩⟩; refine ⟨_, rfl, ?_⟩) | ((with_reducible refine gate_callee (f := 96) rfl ?_); refine goesL_ (some 50) rfl rfl Try.func96 (by kernel_rfl) rfl #[.string a0, .int .i64 (wrap64 ((wrap64 (a1 + 2)) + 1)), .int .i64 16] rfl (by (try simp only [List.map_toArray, List.map_cons, List.map_nil]); first | done | rfl | (simp only [List.length_drop, List.length_take]; rfl)) ?_; (with_reducible refine (goscan_number.calls kj8 a0 (wrap64 ((wrap64 (a1 + 2)) + 1)) 16 t173 _ A20.out).mono ?_); rintro e w' ⟨rfl, ⟨nd, rfl⟩⟩; refine ⟨_, rfl, ?_⟩))
          go_ret
          exact ⟨by first | rfl | (simp [errW_none, errW_some] <;> rfl) | (simp [*, errW_none, errW_some] <;> rfl), by repeat (first | (with_reducible first | exact HB.out | apply below_alloc | apply pw_below_drewN | apply below_drew1) | exact HB.out)⟩
         ·rw [if_neg c21] at H
          have c21b0 : decide (t173 < 0) = false := decide_eq_false c21
          clear c21
          replace H := Option.bind_eq_some_iff.mp H
          obtain ⟨t174, A220, H⟩ := H
          replace H : (some t174) = some r := H
          have A22 := Aside0.mk A220
          clear A220
          obtain rfl := Option.some.inj H
          go_wp2_with (first | ((with_reducible refine gate_callee (f := 90) rfl ?_); refine goesL_ (some 45) rfl rfl Try.func90 (by kernel_rfl) rfl #[.string a0, .int .i64 (wrap64 (a1 + 2))] rfl (by (try simp only [List.map_toArray, List.map_cons, List.map_nil]); first | done | rfl | (simp only [List.length_drop, List.length_take]; rfl)) ?_; (with_reducible refine (goscan_at.calls a0 (wrap64 (a1 + 2)) t172 _ A18.out).mono ?_); rintro e w' ⟨rfl, ⟨nd, rfl⟩⟩; refine ⟨_, rfl, ?_⟩) | ((with_reducible refine gate_callee (f := 96) rfl ?_); refine goesL_ (some 50) rfl rfl Try.func96 (by kernel_rfl) rfl #[.string a0, .int .i64 (wrap64 ((wrap64 (a1 + 2)) + 1)), .int .i64 16] rfl (by (try simp only [List.map_toArray, List.map_cons, List.map_nil]); first | done | rfl | (simp only [List.length_drop, List.length_take]; rfl)) ?_; (with_reducible refine (goscan_number.calls kj8 a0 (wrap64 ((wrap64 (a1 + 2)) + 1)) 16 t173 _ A20.out).mono ?_); rintro e w' ⟨rfl, ⟨nd, rfl⟩⟩; refine ⟨_, rfl, ?_⟩) | ((with_reducible refine gate_callee (f := 97) rfl ?_); refine goesL_ (some 55) rfl rfl Try.func97 (by kernel_rfl) rfl #[.string a0, .int .i64 t173, .int .u8 112, .int .u8 80] rfl (by (try simp only [List.map_toArray, List.map_cons, List.map_nil]); first | done | rfl | (simp only [List.length_drop, List.length_take]; rfl)) ?_; (with_reducible refine (goscan_powerForm.calls kj8 a0 t173 112 80 t174 _ A22.out).mono ?_); rintro e w' ⟨rfl, ⟨nd, rfl⟩⟩; refine ⟨_, rfl, ?_⟩))
          go_ret
          exact ⟨by first | rfl | (simp [errW_none, errW_some] <;> rfl) | (simp [*, errW_none, errW_some] <;> rfl), by repeat (first | (with_reducible first | exact HB.out | apply below_alloc | apply pw_below_drewN | apply below_drew1) | exact HB.out)⟩
        ·rw [if_neg c19] at H
         have c19b0 : (t172 == 46) = false := beq_eq_false_iff_ne.mpr c19
         have c19b1 : (t172 != 46) = true := bne_iff_ne.mpr c19
         obtain rfl := Option.some.inj H
         go_wp2_with (first | ((with_reducible refine gate_callee (f := 90) rfl ?_); refine goesL_ (some 45) rfl rfl Try.func90 (by kernel_rfl) rfl #[.string a0, .int .i64 (wrap64 (a1 + 2))] rfl (by (try simp only [List.map_toArray, List.map_cons, List.map_nil]); first | done | rfl | (simp only [List.length_drop, List.length_take]; rfl)) ?_; (with_reducible refine (goscan_at.calls a0 (wrap64 (a1 + 2)) t172 _ A18.out).mono ?_); rintro e w' ⟨rfl, ⟨nd, rfl⟩⟩; refine ⟨_, rfl, ?_⟩))
         go_ret
         exact ⟨by first | rfl | (simp [errW_none, errW_some] <;> rfl) | (simp [*, errW_none, errW_some] <;> rfl), by repeat (first | (with_reducible first | exact HB.out | apply below_alloc | apply pw_below_drewN | apply below_drew1) | exact HB.out)⟩
       ·rw [if_neg c17] at H
        have c17b0 : (t168 == (wrap64 (a1 + 2))) = false := beq_eq_false_iff_ne.mpr c17
        have c17b1 : (t168 != (wrap64 (a1 + 2))) = true := bne_iff_ne.mpr c17
        by_cases c23 : t168 < 0
        ·rw [if_pos c23] at H
         have c23b0 : decide (t168 < 0) = true := decide_eq_true c23
         clear c23
         obtain rfl := Option.some.inj H
         go_wp2
         go_ret
         exact ⟨by first | rfl | (simp [errW_none, errW_some] <;> rfl) | (simp [*, errW_none, errW_some] <;> rfl), by repeat (first | (with_reducible first | exact HB.out | apply below_alloc | apply pw_below_drewN | apply below_drew1) | exact HB.out)⟩
        ·rw [if_neg c23] at H
         have c23b0 : decide (t168 < 0) = false := decide_eq_false c23
         clear c23
         replace H := Option.bind_eq_some_iff.mp H
         obtain ⟨t175, A240, H⟩ := H
         replace H : (some t175) = some r := H
         have A24 := Aside0.mk A240
         clear A240
         obtain rfl := Option.some.inj H
         go_wp2_with (first | ((with_reducible refine gate_callee (f := 97) rfl ?_); refine goesL_ (some 55) rfl rfl Try.func97 (by kernel_rfl) rfl #[.string a0, .int .i64 t168, .int .u8 112, .int .u8 80] rfl (by (try simp only [List.map_toArray, List.map_cons, List.map_nil]); first | done | rfl | (simp only [List.length_drop, List.length_take]; rfl)) ?_; (with_reducible refine (goscan_powerForm.calls kj8 a0 t168 112 80 t175 _ A24.out).mono ?_); rintro e w' ⟨rfl, ⟨nd, rfl⟩⟩; refine ⟨_, rfl, ?_⟩))
         go_ret
         exact ⟨by first | rfl | (simp [errW_none, errW_some] <;> rfl) | (simp [*, errW_none, errW_some] <;> rfl), by repeat (first | (with_reducible first | exact HB.out | apply below_alloc | apply pw_below_drewN | apply below_drew1) | exact HB.out)⟩
mutual
def goscan_brokenForm.j0 : Nat → ByteArray → Int → Int → Int → Bool → Option (Int)
 | 0, _, _, _, _, _ => none
 | k + 1, x0, x1, x5, x6, x18 => if x18 = true then ((goscan_number.f k x0 (wrap64 (x6 + 1)) 10).bind fun t178 => (goscan_brokenForm.j1 k x0 x1 (mx (wrap64 (x6 + 1)) t178) x6)) else (if x6 < 0 then ((goscan_at.f x0 x1).bind fun t179 => (if t179 = 46 then ((goscan_number.f k x0 (wrap64 (x1 + 1)) 10).bind fun t180 => (goscan_brokenForm.j1 k x0 x1 t180 x6)) else (goscan_brokenForm.j1 k x0 x1 x5 x6))) else (goscan_brokenForm.j1 k x0 x1 x5 x6))
def goscan_brokenForm.j1 : Nat → ByteArray → Int → Int → Int → Option (Int)
 | 0, _, _, _, _ => none
 | k + 1, x0, x1, x5, x6 => if (mx x6 x5) ≥ 0 then ((goscan_powerForm.f k x0 (mx x6 x5) 101 69).bind fun t181 => ((goscan_hexForm.f k x0 x1).bind fun t182 => (some (mx (mx x5 t181) t182)))) else ((goscan_hexForm.f k x0 x1).bind fun t183 => (some (mx x5 t183)))
end
def goscan_brokenForm.f (k : Nat) (a0 : ByteArray) (a1 : Int) : Option (Int) := (goscan_number.f k a0 a1 10).bind fun t176 => (if t176 ≥ 0 then ((goscan_at.f a0 t176).bind fun t177 => (goscan_brokenForm.j0 k a0 a1 (-1) t176 (t177 == 46))) else (goscan_brokenForm.j0 k a0 a1 (-1) t176 false))
theorem goscan_brokenForm.mono_l : ∀ k, (∀ y0 y1 y2 y3 y4, LeO (goscan_brokenForm.j0 k y0 y1 y2 y3 y4) (goscan_brokenForm.j0 (k + 1) y0 y1 y2 y3 y4)) ∧ (∀ y0 y1 y2 y3, LeO (goscan_brokenForm.j1 k y0 y1 y2 y3) (goscan_brokenForm.j1 (k + 1) y0 y1 y2 y3))
 | 0 => ⟨fun _ _ _ _ _ r h => by simp [goscan_brokenForm.j0] at h, fun _ _ _ _ r h => by simp [goscan_brokenForm.j1] at h⟩
 | k + 1 => by
  obtain ⟨ih0, ih1⟩ := goscan_brokenForm.mono_l k
  refine ⟨?_, ?_⟩
  ·intro y0 y1 y2 y3 y4
   unfold goscan_brokenForm.j0
   repeat' first
   | (with_reducible exact ih0 _ _ _ _ _)
   | (with_reducible exact ih1 _ _ _ _)
   | (with_reducible exact goscan_hexForm.mono _ _ _)
   | (with_reducible exact goscan_number.mono _ _ _ _)
   | (with_reducible exact goscan_powerForm.mono _ _ _ _ _)
   | (with_reducible exact LeO.refl _)
   | (with_reducible exact LeO.none _)
   | (with_reducible refine LeO.ite ?_ ?_)
   | (with_reducible refine LeO.bind ?_ (fun _ => ?_))
   | exact ih0 _ _ _ _ _
   | exact ih1 _ _ _ _
   | exact goscan_hexForm.mono _ _ _
   | exact goscan_number.mono _ _ _ _
   | exact goscan_powerForm.mono _ _ _ _ _
   | exact LeO.none _
   | refine LeO.ite ?_ ?_
   | refine LeO.bind ?_ (fun _ => ?_)
  ·intro y0 y1 y2 y3
   unfold goscan_brokenForm.j1
   repeat' first
   | (with_reducible exact ih0 _ _ _ _ _)
   | (with_reducible exact ih1 _ _ _ _)
   | (with_reducible exact goscan_hexForm.mono _ _ _)
   | (with_reducible exact goscan_number.mono _ _ _ _)
   | (with_reducible exact goscan_powerForm.mono _ _ _ _ _)
   | (with_reducible exact LeO.refl _)
   | (with_reducible exact LeO.none _)
   | (with_reducible refine LeO.ite ?_ ?_)
   | (with_reducible refine LeO.bind ?_ (fun _ => ?_))
   | exact ih0 _ _ _ _ _
   | exact ih1 _ _ _ _
   | exact goscan_hexForm.mono _ _ _
   | exact goscan_number.mono _ _ _ _
   | exact goscan_powerForm.mono _ _ _ _ _
   | exact LeO.none _
   | refine LeO.ite ?_ ?_
   | refine LeO.bind ?_ (fun _ => ?_)
theorem goscan_brokenForm.mono : ∀ a0 a1 k, LeO (goscan_brokenForm.f k a0 a1) (goscan_brokenForm.f (k + 1) a0 a1) := by
 intro a0 a1 k
 obtain ⟨ih0, ih1⟩ := goscan_brokenForm.mono_l k
 unfold goscan_brokenForm.f
 repeat' first
   | (with_reducible exact ih0 _ _ _ _ _)
   | (with_reducible exact ih1 _ _ _ _)
   | (with_reducible exact goscan_hexForm.mono _ _ _)
   | (with_reducible exact goscan_number.mono _ _ _ _)
   | (with_reducible exact goscan_powerForm.mono _ _ _ _ _)
   | (with_reducible exact LeO.refl _)
   | (with_reducible exact LeO.none _)
   | (with_reducible refine LeO.ite ?_ ?_)
   | (with_reducible refine LeO.bind ?_ (fun _ => ?_))
   | exact ih0 _ _ _ _ _
   | exact ih1 _ _ _ _
   | exact goscan_hexForm.mono _ _ _
   | exact goscan_number.mono _ _ _ _
   | exact goscan_powerForm.mono _ _ _ _ _
   | exact LeO.none _
   | refine LeO.ite ?_ ?_
   | refine LeO.bind ?_ (fun _ => ?_)
set_option maxHeartbeats 8000000 in
set_option maxRecDepth 100000 in
theorem goscan_brokenForm.calls (k : Nat) (a0 : ByteArray) (a1 : Int) (r : Int) (w : World) (h : goscan_brokenForm.f k a0 a1 = some r) :
  Calls Try.prog 73 #[.string a0, .int .i64 a1] w fun e w' => e = .returned (.int .i64 r) ∧ Below w.heap.size w w' := by
 have HB := Aside0.mk (Below.refl w.heap.size w)
 have H : ((goscan_number.f k a0 a1 10).bind fun t176 => (if t176 ≥ 0 then ((goscan_at.f a0 t176).bind fun t177 => (goscan_brokenForm.j0 k a0 a1 (-1) t176 (t177 == 46))) else (goscan_brokenForm.j0 k a0 a1 (-1) t176 false))) = some r := h
 clear h
 replace H := Option.bind_eq_some_iff.mp H
 obtain ⟨t176, A30, H⟩ := H
 replace H : (if t176 ≥ 0 then ((goscan_at.f a0 t176).bind fun t177 => (goscan_brokenForm.j0 k a0 a1 (-1) t176 (t177 == 46))) else (goscan_brokenForm.j0 k a0 a1 (-1) t176 false)) = some r := H
 have A3 := Aside0.mk A30
 clear A30
 have HC4 := Aside0.mk H
 clear H
 go_enter Try.func73, Try.ntmps73
 go_upto_region 3 with (first | ((with_reducible refine gate_callee (f := 96) rfl ?_); refine goesL_ (some 10) rfl rfl Try.func96 (by kernel_rfl) rfl #[.string a0, .int .i64 a1, .int .i64 10] rfl (by (try simp only [List.map_toArray, List.map_cons, List.map_nil]); first | done | rfl | (simp only [List.length_drop, List.length_take]; rfl)) ?_; (with_reducible refine (goscan_number.calls k a0 a1 10 t176 _ A3.out).mono ?_); rintro e w' ⟨rfl, ⟨nd, rfl⟩⟩; refine ⟨_, rfl, ?_⟩))
 (try simp only [Act.put, List.setIfInBounds_toArray, List.set_cons_zero, List.set_cons_succ])
 go_cut [18] (fun v18 wc => ∃ (kq : Nat) (x18_3 : Bool), v18 = .bool x18_3 ∧ Aside0 (goscan_brokenForm.j0 kq a0 a1 (-1) t176 x18_3 = some r) ∧ Aside0 (kq ≤ k) ∧ Aside0 (Below w.heap.size w wc))
 case first =>
  have H := HC4.out
  clear HC4
  by_cases c5 : t176 ≥ 0
  ·rw [if_pos c5] at H
   have c5b0 : decide (0 ≤ t176) = true := decide_eq_true c5
   clear c5
   (first | rw [c5b0] | (simp only [i64_w, i32_w]; rw [c5b0]) | skip)
   replace H := Option.bind_eq_some_iff.mp H
   obtain ⟨t177, A60, H⟩ := H
   replace H : (goscan_brokenForm.j0 k a0 a1 (-1) t176 (t177 == 46)) = some r := H
   have A6 := Aside0.mk A60
   clear A60
   have H' := Aside0.mk H
   clear H
   go_wp2_with (first | (go_at_call 90; (with_reducible refine (goscan_at.calls a0 t176 t177 _ A6.out).mono ?_); rintro e w' ⟨rfl, ⟨nd, rfl⟩⟩))
   go_meet
   case rel => exact ⟨_, ((t177 == 46)), (by first | rfl | (simp; done) | (simp [*]; done) | (simp <;> omega) | rw [u32_tmod]), H', ⟨by first | omega | exact Nat.le_refl _⟩, ⟨by repeat (first | (with_reducible first | exact HB.out | apply below_alloc | apply pw_below_drewN | apply below_drew1) | exact HB.out)⟩⟩
  ·rw [if_neg c5] at H
   have c5b0 : decide (0 ≤ t176) = false := decide_eq_false c5
   clear c5
   (first | rw [c5b0] | (simp only [i64_w, i32_w]; rw [c5b0]) | skip)
   have H' := Aside0.mk H
   clear H
   go_wp2
   go_meet
   case rel => exact ⟨_, (false), (by first | rfl | (simp; done) | (simp [*]; done) | (simp <;> omega) | rw [u32_tmod]), H', ⟨by first | omega | exact Nat.le_refl _⟩, ⟨by repeat (first | (with_reducible first | exact HB.out | apply below_alloc | apply pw_below_drewN | apply below_drew1) | exact HB.out)⟩⟩
 case rest =>
  clear HC4
  try clear p2
  try clear c5
  try clear c5b0
  obtain ⟨kq, x18_3, rfl, HA, HJ3, HB⟩ := hcut
  cases kq with
  | zero => exact absurd HA.out (by simp [goscan_brokenForm.j0])
  | succ kj3 =>
   have H := HA.out
   clear HA
   simp only [goscan_brokenForm.j0] at H
   have HC7 := Aside0.mk H
   clear H
   go_upto_if 18 with (fail)
   go_cut [5] (fun v5 wc => ∃ (kq : Nat) (x5_6 : Int), v5 = .int .i64 x5_6 ∧ Aside0 (goscan_brokenForm.j1 kq a0 a1 x5_6 t176 = some r) ∧ Aside0 (kq ≤ kj3) ∧ Aside0 (Below w.heap.size w wc))
   case first =>
    have H := HC7.out
    clear HC7
    by_cases c8 : x18_3 = true
    ·subst c8
     have H1 : ((goscan_number.f kj3 a0 (wrap64 (t176 + 1)) 10).bind fun t178 => (goscan_brokenForm.j1 kj3 a0 a1 (mx (wrap64 (t176 + 1)) t178) t176)) = some r := by rw [if_pos rfl] at H; exact H
     clear H
     have H := H1
     clear H1
     replace H := Option.bind_eq_some_iff.mp H
     obtain ⟨t178, A90, H⟩ := H
     replace H : (goscan_brokenForm.j1 kj3 a0 a1 (mx (wrap64 (t176 + 1)) t178) t176) = some r := H
     have A9 := Aside0.mk A90
     clear A90
     obtain ⟨ji10, hji10⟩ : ∃ j_ : Int, (mx (wrap64 (t176 + 1)) t178) = j_ := ⟨_, rfl⟩
     replace H : (goscan_brokenForm.j1 kj3 a0 a1 ji10 t176) = some r := by first | (rw [hji10] at H; exact H) | (simp only [hji10] at H ⊢; exact H)
     (try rw [hji10] at A9)
     have hji10_ : (if (wrap64 (t176 + 1)) < t178 then t178 else (wrap64 (t176 + 1))) = ji10 := hji10
     have H' := Aside0.mk H
     clear H
     go_wp2_with (first | ((with_reducible refine gate_callee (f := 96) rfl ?_); refine goesL_ (some 24) rfl rfl Try.func96 (by kernel_rfl) rfl #[.string a0, .int .i64 (wrap64 (t176 + 1)), .int .i64 10] rfl (by (try simp only [List.map_toArray, List.map_cons, List.map_nil]); first | done | rfl | (simp only [List.length_drop, List.length_take]; rfl)) ?_; (with_reducible refine (goscan_number.calls kj3 a0 (wrap64 (t176 + 1)) 10 t178 _ A9.out).mono ?_); rintro e w' ⟨rfl, ⟨nd, rfl⟩⟩; refine ⟨_, rfl, ?_⟩))
     go_meet
     case rel => exact ⟨_, (ji10), (by first | rfl | (simp; done) | (simp only [← hji10] <;> (first | rfl | (simp; done))) | (simp only [← hji10] <;> rw [u32_tmod]) | (simp only [← hji10] <;> simp <;> omega) | (simp [*]; done) | (simp <;> omega) | rw [u32_tmod]), H', ⟨by have := HJ3.out; first | omega | exact Nat.le_refl _⟩, ⟨by repeat (first | (with_reducible first | exact HB.out | apply below_alloc | apply pw_below_drewN | apply below_drew1) | exact HB.out)⟩⟩
    ·replace c8 := Bool.eq_false_iff.mpr c8
     subst c8
     have H1 : (if t176 < 0 then ((goscan_at.f a0 a1).bind fun t179 => (if t179 = 46 then ((goscan_number.f kj3 a0 (wrap64 (a1 + 1)) 10).bind fun t180 => (goscan_brokenForm.j1 kj3 a0 a1 t180 t176)) else (goscan_brokenForm.j1 kj3 a0 a1 (-1) t176))) else (goscan_brokenForm.j1 kj3 a0 a1 (-1) t176)) = some r := by rw [if_neg (show ¬ (false = true) by decide)] at H; exact H
     clear H
     have H := H1
     clear H1
     by_cases c11 : t176 < 0
     ·rw [if_pos c11] at H
      have c11b0 : decide (t176 < 0) = true := decide_eq_true c11
      clear c11
      (first | rw [c11b0] | (simp only [i64_w, i32_w]; rw [c11b0]) | skip)
      replace H := Option.bind_eq_some_iff.mp H
      obtain ⟨t179, A120, H⟩ := H
      replace H : (if t179 = 46 then ((goscan_number.f kj3 a0 (wrap64 (a1 + 1)) 10).bind fun t180 => (goscan_brokenForm.j1 kj3 a0 a1 t180 t176)) else (goscan_brokenForm.j1 kj3 a0 a1 (-1) t176)) = some r := H
      have A12 := Aside0.mk A120
      clear A120
      by_cases c13 : t179 = 46
      ·rw [if_pos c13] at H
       have c13b0 : (t179 == 46) = true := beq_iff_eq.mpr c13
       have c13b1 : (t179 != 46) = false := bne_eq_false_iff_eq.mpr c13
       clear c13
       replace H := Option.bind_eq_some_iff.mp H
       obtain ⟨t180, A140, H⟩ := H
       replace H : (goscan_brokenForm.j1 kj3 a0 a1 t180 t176) = some r := H
       have A14 := Aside0.mk A140
       clear A140
       have H' := Aside0.mk H
       clear H
       go_wp2_with (first | (go_at_call 90; (with_reducible refine (goscan_at.calls a0 a1 t179 _ A12.out).mono ?_); rintro e w' ⟨rfl, ⟨nd, rfl⟩⟩) | ((with_reducible refine gate_callee (f := 96) rfl ?_); refine goesL_ (some 37) rfl rfl Try.func96 (by kernel_rfl) rfl #[.string a0, .int .i64 (wrap64 (a1 + 1)), .int .i64 10] rfl (by (try simp only [List.map_toArray, List.map_cons, List.map_nil]); first | done | rfl | (simp only [List.length_drop, List.length_take]; rfl)) ?_; (with_reducible refine (goscan_number.calls kj3 a0 (wrap64 (a1 + 1)) 10 t180 _ A14.out).mono ?_); rintro e w' ⟨rfl, ⟨nd, rfl⟩⟩; refine ⟨_, rfl, ?_⟩))
       go_meet
       case rel => exact ⟨_, (t180), (by first | rfl | (simp; done) | (simp [*]; done) | (simp <;> omega) | rw [u32_tmod]), H', ⟨by have := HJ3.out; first | omega | exact Nat.le_refl _⟩, ⟨by repeat (first | (with_reducible first | exact HB.out | apply below_alloc | apply pw_below_drewN | apply below_drew1) | exact HB.out)⟩⟩
      ·rw [if_neg c13] at H
       have c13b0 : (t179 == 46) = false := beq_eq_false_iff_ne.mpr c13
       have c13b1 : (t179 != 46) = true := bne_iff_ne.mpr c13
       have H' := Aside0.mk H
       clear H
       go_wp2_with (first | (go_at_call 90; (with_reducible refine (goscan_at.calls a0 a1 t179 _ A12.out).mono ?_); rintro e w' ⟨rfl, ⟨nd, rfl⟩⟩))
       go_meet
       case rel => exact ⟨_, ((-1)), (by first | rfl | (simp; done) | (simp [*]; done) | (simp <;> omega) | rw [u32_tmod]), H', ⟨by have := HJ3.out; first | omega | exact Nat.le_refl _⟩, ⟨by repeat (first | (with_reducible first | exact HB.out | apply below_alloc | apply pw_below_drewN | apply below_drew1) | exact HB.out)⟩⟩
     ·rw [if_neg c11] at H
      have c11b0 : decide (t176 < 0) = false := decide_eq_false c11
      clear c11
      (first | rw [c11b0] | (simp only [i64_w, i32_w]; rw [c11b0]) | skip)
      have H' := Aside0.mk H
      clear H
      go_wp2
      go_meet
      case rel => exact ⟨_, ((-1)), (by first | rfl | (simp; done) | (simp [*]; done) | (simp <;> omega) | rw [u32_tmod]), H', ⟨by have := HJ3.out; first | omega | exact Nat.le_refl _⟩, ⟨by repeat (first | (with_reducible first | exact HB.out | apply below_alloc | apply pw_below_drewN | apply below_drew1) | exact HB.out)⟩⟩
   case rest =>
    clear HC7
    try clear c1
    try clear p2
    try clear c5
    try clear c5b0
    try clear p6
    try clear c7
    try clear c8
    try clear c9
    try clear c11
    try clear c11b0
    try clear c13
    try clear c13b0
    try clear c13b1
    try clear p2
    obtain ⟨kq, x5_6, rfl, HA, HJ6, HB⟩ := hcut
    cases kq with
    | zero => exact absurd HA.out (by simp [goscan_brokenForm.j1])
    | succ kj6 =>
     have H := HA.out
     clear HA
     simp only [goscan_brokenForm.j1] at H
     obtain ⟨ji15, hji15⟩ : ∃ j_ : Int, (mx t176 x5_6) = j_ := ⟨_, rfl⟩
     replace H : (if (ji15) ≥ 0 then ((goscan_powerForm.f kj6 a0 (ji15) 101 69).bind fun t181 => ((goscan_hexForm.f kj6 a0 a1).bind fun t182 => (some (mx (mx x5_6 t181) t182)))) else ((goscan_hexForm.f kj6 a0 a1).bind fun t183 => (some (mx x5_6 t183)))) = some r := by first | (rw [hji15] at H; exact H) | (simp only [hji15] at H ⊢; exact H)
     have hji15_ : (if t176 < x5_6 then x5_6 else t176) = ji15 := hji15
     by_cases c16 : (ji15) ≥ 0
     ·rw [if_pos c16] at H
      have c16b0 : decide (0 ≤ (ji15)) = true := decide_eq_true c16
      clear c16
      replace H := Option.bind_eq_some_iff.mp H
      obtain ⟨t181, A170, H⟩ := H
      replace H : ((goscan_hexForm.f kj6 a0 a1).bind fun t182 => (some (mx (mx x5_6 t181) t182))) = some r := H
      have A17 := Aside0.mk A170
      clear A170
      obtain ⟨ji18, hji18⟩ : ∃ j_ : Int, (mx x5_6 t181) = j_ := ⟨_, rfl⟩
      replace H : ((goscan_hexForm.f kj6 a0 a1).bind fun t182 => (some (mx (ji18) t182))) = some r := by first | (rw [hji18] at H; exact H) | (simp only [hji18] at H ⊢; exact H)
      (try rw [hji18] at A17)
      have hji18_ : (if x5_6 < t181 then t181 else x5_6) = ji18 := hji18
      replace H := Option.bind_eq_some_iff.mp H
      obtain ⟨t182, A190, H⟩ := H
      replace H : (some (mx (ji18) t182)) = some r := H
      have A19 := Aside0.mk A190
      clear A190
      obtain ⟨ji20, hji20⟩ : ∃ j_ : Int, (mx (ji18) t182) = j_ := ⟨_, rfl⟩
      replace H : (some ji20) = some r := by first | (rw [hji20] at H; exact H) | (simp only [hji20] at H ⊢; exact H)
      (try rw [hji20] at A17)
      (try rw [hji20] at A19)
      have hji20_ : (if (ji18) < t182 then t182 else (ji18)) = ji20 := hji20
      obtain rfl := Option.some.inj H
      go_wp2_with (first | ((with_reducible refine gate_callee (f := 97) rfl ?_); refine goesL_ (some 46) rfl rfl Try.func97 (by kernel_rfl) rfl #[.string a0, .int .i64 ji15, .int .u8 101, .int .u8 69] rfl (by (try simp only [List.map_toArray, List.map_cons, List.map_nil]); first | done | (simp only [hji15]; rfl) | rfl | (simp only [List.length_drop, List.length_take]; rfl)) ?_; (with_reducible refine (goscan_powerForm.calls kj6 a0 ji15 101 69 t181 _ A17.out).mono ?_); rintro e w' ⟨rfl, ⟨nd, rfl⟩⟩; refine ⟨_, rfl, ?_⟩) | ((with_reducible refine gate_callee (f := 98) rfl ?_); refine goesL_ (some 51) rfl rfl Try.func98 (by kernel_rfl) rfl #[.string a0, .int .i64 a1] rfl (by (try simp only [List.map_toArray, List.map_cons, List.map_nil]); first | done | rfl | (simp only [List.length_drop, List.length_take]; rfl)) ?_; (with_reducible refine (goscan_hexForm.calls kj6 a0 a1 t182 _ A19.out).mono ?_); rintro e w21 ⟨rfl, hb⟩; refine ⟨_, rfl, ?_⟩; have n0_ := Aside0.mk (below_step (by repeat (first | (with_reducible first | exact HB.out | apply below_alloc | apply pw_below_drewN | apply below_drew1) | exact HB.out)) hb); clear HB; have HB := n0_; clear n0_; (try clear hb); (try clear hb2); (try clear hk); (try clear hi)))
      go_ret
      exact ⟨by first | rfl | (simp [errW_none, errW_some] <;> rfl) | (simp only [← hji15, ← hji18, ← hji20]; first | rfl | (simp [errW_none, errW_some] <;> rfl)) | (simp [*, errW_none, errW_some] <;> rfl), by repeat (first | (with_reducible first | exact HB.out | apply below_alloc | apply pw_below_drewN | apply below_drew1) | exact HB.out)⟩
     ·rw [if_neg c16] at H
      have c16b0 : decide (0 ≤ (ji15)) = false := decide_eq_false c16
      clear c16
      replace H := Option.bind_eq_some_iff.mp H
      obtain ⟨t183, A220, H⟩ := H
      replace H : (some (mx x5_6 t183)) = some r := H
      have A22 := Aside0.mk A220
      clear A220
      obtain ⟨ji23, hji23⟩ : ∃ j_ : Int, (mx x5_6 t183) = j_ := ⟨_, rfl⟩
      replace H : (some ji23) = some r := by first | (rw [hji23] at H; exact H) | (simp only [hji23] at H ⊢; exact H)
      (try rw [hji23] at A22)
      have hji23_ : (if x5_6 < t183 then t183 else x5_6) = ji23 := hji23
      obtain rfl := Option.some.inj H
      go_wp2_with (first | ((with_reducible refine gate_callee (f := 98) rfl ?_); refine goesL_ (some 51) rfl rfl Try.func98 (by kernel_rfl) rfl #[.string a0, .int .i64 a1] rfl (by (try simp only [List.map_toArray, List.map_cons, List.map_nil]); first | done | rfl | (simp only [List.length_drop, List.length_take]; rfl)) ?_; (with_reducible refine (goscan_hexForm.calls kj6 a0 a1 t183 _ A22.out).mono ?_); rintro e w24 ⟨rfl, hb⟩; refine ⟨_, rfl, ?_⟩; have n0_ := Aside0.mk (below_step (by repeat (first | (with_reducible first | exact HB.out | apply below_alloc | apply pw_below_drewN | apply below_drew1) | exact HB.out)) hb); clear HB; have HB := n0_; clear n0_; (try clear hb); (try clear hb2); (try clear hk); (try clear hi)))
      go_ret
      exact ⟨by first | rfl | (simp [errW_none, errW_some] <;> rfl) | (simp only [← hji15, ← hji23]; first | rfl | (simp [errW_none, errW_some] <;> rfl)) | (simp [*, errW_none, errW_some] <;> rfl), by repeat (first | (with_reducible first | exact HB.out | apply below_alloc | apply pw_below_drewN | apply below_drew1) | exact HB.out)⟩
def goscan_imagForm.l0 : Nat → ByteArray → Int → Int → List Int → Int → Int → Option (Int)
 | 0, _, _, _, _, _, _ => none
 | k + 1, x0, x1, x5, x17, x18, x19 => if x19 < x18 then (if 0 ≤ x19 then (if x19 < (x17.length : Int) then (if (rd x17 x19) > x1 then ((goscan_at.f x0 (rd x17 x19)).bind fun t191 => (if t191 = 105 then (goscan_imagForm.l0 k x0 x1 (mx x5 (wrap64 ((rd x17 x19) + 1))) x17 x18 (wrap64 (x19 + 1))) else (goscan_imagForm.l0 k x0 x1 x5 x17 x18 (wrap64 (x19 + 1))))) else (goscan_imagForm.l0 k x0 x1 x5 x17 x18 (wrap64 (x19 + 1)))) else (none)) else (none)) else (some x5)
def goscan_imagForm.f (k : Nat) (a0 : ByteArray) (a1 : Int) : Option (Int) := (goscan_number.f k a0 a1 10).bind fun t184 => ((goscan_wholeForm.f k a0 a1).bind fun t185 => ((goscan_brokenForm.f k a0 a1).bind fun t186 => ((some (([t184, t185, t186] : List Int) : List Int)).bind fun y187 => (goscan_imagForm.l0 k a0 a1 (-1) y187 (y187.length : Int) 0))))
theorem goscan_imagForm.mono_l : ∀ k, (∀ y0 y1 y2 y3 y4 y5, LeO (goscan_imagForm.l0 k y0 y1 y2 y3 y4 y5) (goscan_imagForm.l0 (k + 1) y0 y1 y2 y3 y4 y5))
 | 0 => fun _ _ _ _ _ _ r h => by simp [goscan_imagForm.l0] at h
 | k + 1 => by
  have ih0 := goscan_imagForm.mono_l k
  ·intro y0 y1 y2 y3 y4 y5
   unfold goscan_imagForm.l0
   repeat' first
   | (with_reducible exact ih0 _ _ _ _ _ _)
   | (with_reducible exact goscan_brokenForm.mono _ _ _)
   | (with_reducible exact goscan_number.mono _ _ _ _)
   | (with_reducible exact goscan_wholeForm.mono _ _ _)
   | (with_reducible exact LeO.refl _)
   | (with_reducible exact LeO.none _)
   | (with_reducible refine LeO.ite ?_ ?_)
   | (with_reducible refine LeO.bind ?_ (fun _ => ?_))
   | exact ih0 _ _ _ _ _ _
   | exact goscan_brokenForm.mono _ _ _
   | exact goscan_number.mono _ _ _ _
   | exact goscan_wholeForm.mono _ _ _
   | exact LeO.none _
   | refine LeO.ite ?_ ?_
   | refine LeO.bind ?_ (fun _ => ?_)
theorem goscan_imagForm.mono : ∀ a0 a1 k, LeO (goscan_imagForm.f k a0 a1) (goscan_imagForm.f (k + 1) a0 a1) := by
 intro a0 a1 k
 have ih0 := goscan_imagForm.mono_l k
 unfold goscan_imagForm.f
 repeat' first
   | (with_reducible exact ih0 _ _ _ _ _ _)
   | (with_reducible exact goscan_brokenForm.mono _ _ _)
   | (with_reducible exact goscan_number.mono _ _ _ _)
   | (with_reducible exact goscan_wholeForm.mono _ _ _)
   | (with_reducible exact LeO.refl _)
   | (with_reducible exact LeO.none _)
   | (with_reducible refine LeO.ite ?_ ?_)
   | (with_reducible refine LeO.bind ?_ (fun _ => ?_))
   | exact ih0 _ _ _ _ _ _
   | exact goscan_brokenForm.mono _ _ _
   | exact goscan_number.mono _ _ _ _
   | exact goscan_wholeForm.mono _ _ _
   | exact LeO.none _
   | refine LeO.ite ?_ ?_
   | refine LeO.bind ?_ (fun _ => ?_)
set_option maxHeartbeats 8000000 in
set_option maxRecDepth 100000 in
theorem goscan_imagForm.calls (k : Nat) (a0 : ByteArray) (a1 : Int) (r : Int) (w : World) (h : goscan_imagForm.f k a0 a1 = some r) :
  Calls Try.prog 74 #[.string a0, .int .i64 a1] w fun e w' => e = .returned (.int .i64 r) ∧ Below w.heap.size w w' := by
 have HB := Aside0.mk (Below.refl w.heap.size w)
 have H : ((goscan_number.f k a0 a1 10).bind fun t184 => ((goscan_wholeForm.f k a0 a1).bind fun t185 => ((goscan_brokenForm.f k a0 a1).bind fun t186 => ((some (([t184, t185, t186] : List Int) : List Int)).bind fun y187 => (goscan_imagForm.l0 k a0 a1 (-1) y187 (y187.length : Int) 0))))) = some r := h
 clear h
 replace H := Option.bind_eq_some_iff.mp H
 obtain ⟨t184, A30, H⟩ := H
 replace H : ((goscan_wholeForm.f k a0 a1).bind fun t185 => ((goscan_brokenForm.f k a0 a1).bind fun t186 => ((some (([t184, t185, t186] : List Int) : List Int)).bind fun y187 => (goscan_imagForm.l0 k a0 a1 (-1) y187 (y187.length : Int) 0)))) = some r := H
 have A3 := Aside0.mk A30
 clear A30
 replace H := Option.bind_eq_some_iff.mp H
 obtain ⟨t185, A40, H⟩ := H
 replace H : ((goscan_brokenForm.f k a0 a1).bind fun t186 => ((some (([t184, t185, t186] : List Int) : List Int)).bind fun y187 => (goscan_imagForm.l0 k a0 a1 (-1) y187 (y187.length : Int) 0))) = some r := H
 have A4 := Aside0.mk A40
 clear A40
 replace H := Option.bind_eq_some_iff.mp H
 obtain ⟨t186, A50, H⟩ := H
 replace H : ((some (([t184, t185, t186] : List Int) : List Int)).bind fun y187 => (goscan_imagForm.l0 k a0 a1 (-1) y187 (y187.length : Int) 0)) = some r := H
 have A5 := Aside0.mk A50
 clear A50
 obtain ⟨y187, hy187⟩ : ∃ y_ : List Int, y_ = (([t184, t185, t186] : List Int)) := ⟨_, rfl⟩
 replace H : (goscan_imagForm.l0 k a0 a1 (-1) y187 (y187.length : Int) 0) = some r := by first | (rw [hy187]; with_reducible exact H) | (have H2_ := (Option.bind_some _ _).symm.trans H; rw [hy187]; with_reducible exact H2_) | (have H2_ := (Option.bind_some _ _).symm.trans H; with_reducible exact H2_) | with_reducible exact H | (rw [hy187]; exact H) | exact H
 have Ny187 := Aside0.mk hy187
 clear hy187
 have H' := Aside0.mk H
 clear H
 go_enter Try.func74, Try.ntmps74
 go_wp2_with (first | ((with_reducible refine gate_callee (f := 96) rfl ?_); refine goesL_ (some 10) rfl rfl Try.func96 (by kernel_rfl) rfl #[.string a0, .int .i64 a1, .int .i64 10] rfl (by (try simp only [List.map_toArray, List.map_cons, List.map_nil]); first | done | rfl | (simp only [List.length_drop, List.length_take]; rfl)) ?_; (with_reducible refine (goscan_number.calls k a0 a1 10 t184 _ A3.out).mono ?_); rintro e w' ⟨rfl, ⟨nd, rfl⟩⟩; refine ⟨_, rfl, ?_⟩) | ((with_reducible refine gate_callee (f := 72) rfl ?_); refine goesL_ (some 13) rfl rfl Try.func72 (by kernel_rfl) rfl #[.string a0, .int .i64 a1] rfl (by (try simp only [List.map_toArray, List.map_cons, List.map_nil]); first | done | rfl | (simp only [List.length_drop, List.length_take]; rfl)) ?_; (with_reducible refine (goscan_wholeForm.calls k a0 a1 t185 _ A4.out).mono ?_); rintro e w6 ⟨rfl, hb⟩; refine ⟨_, rfl, ?_⟩; have n0_ := Aside0.mk (below_step (by repeat (first | (with_reducible first | exact HB.out | apply below_alloc | apply pw_below_drewN | apply below_drew1) | exact HB.out)) hb); clear HB; have HB := n0_; clear n0_; (try clear hb); (try clear hb2); (try clear hk); (try clear hi)) | ((with_reducible refine gate_callee (f := 73) rfl ?_); refine goesL_ (some 16) rfl rfl Try.func73 (by kernel_rfl) rfl #[.string a0, .int .i64 a1] rfl (by (try simp only [List.map_toArray, List.map_cons, List.map_nil]); first | done | rfl | (simp only [List.length_drop, List.length_take]; rfl)) ?_; (with_reducible refine (goscan_brokenForm.calls k a0 a1 t186 _ A5.out).mono ?_); rintro e w7 ⟨rfl, hb⟩; refine ⟨_, rfl, ?_⟩; have n0_ := Aside0.mk (below_step (by repeat (first | (with_reducible first | exact HB.out | apply below_alloc | apply pw_below_drewN | apply below_drew1) | exact HB.out)) hb); clear HB; have HB := n0_; clear n0_; (try clear hb); (try clear hb2); (try clear hk); (try clear hi)) | ((with_reducible refine gate_dst (N := 17) rfl ?_); refine Kd.R_lit (Kd.int .i64) _ 3 ?hg (N := 17) ?hd (xs := ([t184, t185, t186] : List Int)) (inner := [.int .i64 t184, .int .i64 t185, .int .i64 t186]) (ok := fun _ => True) (okp := fun _ => True) ?hr ?hp (fun _ hk => hk) trivial (Below.refl _ _) (Nat.le_refl _) (by simp) ?_; (case hd => rfl); (case hg => rfl); (case hr => first | (go_simp; done) | (go_simp; rfl)); (case hp => exact (Reps.one (show Kd.M (Kd.int .i64) _ _ _ t184 [.int .i64 t184] from rfl) (Reps.one (show Kd.M (Kd.int .i64) _ _ _ t185 [.int .i64 t185] from rfl) (Reps.one (show Kd.M (Kd.int .i64) _ _ _ t186 [.int .i64 t186] from rfl) (Reps.none _ _))))); intro v188 w8 ho9 hb hg_ hnew_; clear hg_ hnew_; (first | rw [← Ny187.out] at ho9 | (simp only [Int.reduceToNat] at ho9; rw [← Ny187.out] at ho9)); have n0_ := Aside0.mk (Kd.R_lower ho9 (below_size (by repeat (first | (with_reducible first | exact HB.out | apply below_alloc | apply pw_below_drewN | apply below_drew1) | exact HB.out)))); have n1_ := Aside0.mk (below_step (by repeat (first | (with_reducible first | exact HB.out | apply below_alloc | apply pw_below_drewN | apply below_drew1) | exact HB.out)) hb); clear HB; have HO189 := n0_; have HB := n1_; clear n0_ n1_; clear hb ho9; obtain ⟨Ao10, co10, eo10⟩ := Kd.R_slice HO189.out; subst eo10))
 go_loopg [5, 19] k (fun kq v5 v19 w' => ∃ (x5_1 : Int) (x19_1 : Int), v5 = .int .i64 x5_1 ∧ v19 = .int .i64 x19_1 ∧ Aside0 (goscan_imagForm.l0 kq a0 a1 x5_1 y187 (y187.length : Int) x19_1 = some r) ∧ Aside0 (kq ≤ k) ∧ Aside0 (Kd.R (Kd.int .i64) 3 w' w.heap.size (fun _ => True) (.slice Ao10 y187.length co10) y187) ∧ Aside0 (Below w.heap.size w w'))
 case atStart => exact ⟨((-1)), (0), (by first | rfl | (simp; done) | (simp [*]; done) | (simp <;> omega) | rw [u32_tmod]), (by first | rfl | (simp; done) | (simp [*]; done) | (simp <;> omega) | rw [u32_tmod]), H', ⟨Nat.le_refl _⟩, ⟨by (with_reducible repeat (first | apply Kd.R_alloc | apply Kd.R_drewN | apply Kd.R_drew)); exact HO189.out⟩, ⟨by repeat (first | (with_reducible first | exact HB.out | apply below_alloc | apply pw_below_drewN | apply below_drew1) | exact HB.out)⟩⟩
 case round =>
  clear H'
  try clear p2
  try clear c7
  try clear c9
  obtain ⟨x5_1, x19_1, rfl, rfl, HA, HK1, HO_17, HB⟩ := hrel
  cases gk with
  | zero => exact absurd HA.out (by simp [goscan_imagForm.l0])
  | succ k1 =>
   have H := HA.out
   clear HA
   simp only [goscan_imagForm.l0] at H
   by_cases c11 : x19_1 < (y187.length : Int)
   ·rw [if_pos c11] at H
    have c11b0 : decide (x19_1 < (y187.length : Int)) = true := decide_eq_true c11
    clear c11
    by_cases c12 : 0 ≤ x19_1
    ·rw [if_pos c12] at H
     have c12b0 : decide (0 ≤ x19_1) = true := decide_eq_true c12
     clear c12
     by_cases c13 : x19_1 < (y187.length : Int)
     ·rw [if_pos c13] at H
      have c13b0 : decide (x19_1 < (y187.length : Int)) = true := decide_eq_true c13
      clear c13
      by_cases c14 : (rd y187 x19_1) > a1
      ·rw [if_pos c14] at H
       have c14b0 : decide (a1 < (rd y187 x19_1)) = true := decide_eq_true c14
       clear c14
       replace H := Option.bind_eq_some_iff.mp H
       obtain ⟨t191, A150, H⟩ := H
       replace H : (if t191 = 105 then (goscan_imagForm.l0 k1 a0 a1 (mx x5_1 (wrap64 ((rd y187 x19_1) + 1))) y187 (y187.length : Int) (wrap64 (x19_1 + 1))) else (goscan_imagForm.l0 k1 a0 a1 x5_1 y187 (y187.length : Int) (wrap64 (x19_1 + 1)))) = some r := H
       have A15 := Aside0.mk A150
       clear A150
       by_cases c16 : t191 = 105
       ·rw [if_pos c16] at H
        have c16b0 : (t191 == 105) = true := beq_iff_eq.mpr c16
        have c16b1 : (t191 != 105) = false := bne_eq_false_iff_eq.mpr c16
        clear c16
        obtain ⟨ji17, hji17⟩ : ∃ j_ : Int, (mx x5_1 (wrap64 ((rd y187 x19_1) + 1))) = j_ := ⟨_, rfl⟩
        replace H : (goscan_imagForm.l0 k1 a0 a1 ji17 y187 (y187.length : Int) (wrap64 (x19_1 + 1))) = some r := by first | (rw [hji17] at H; exact H) | (simp only [hji17] at H ⊢; exact H)
        (try rw [hji17] at A15)
        have hji17_ : (if x5_1 < (wrap64 ((rd y187 x19_1) + 1)) then (wrap64 ((rd y187 x19_1) + 1)) else x5_1) = ji17 := hji17
        have H' := Aside0.mk H
        clear H
        have p190 : 0 ≤ (x19_1 : Int) := of_decide_eq_true (by first | (with_reducible assumption) | assumption)
        have q190 : x19_1 < (y187.length : Int) := of_decide_eq_true (by first | (with_reducible assumption) | assumption)
        obtain ⟨ad190, e190, hx190_0⟩ := Kd.at_int (Kd.R_reads' HO_17.out).2.2 x19_1 p190 q190
        cases e190
        replace p190 := eq_true p190
        replace q190 := eq_true q190
        go_wp2_with (first | (go_at_call 90; (with_reducible refine (goscan_at.calls a0 (rd y187 x19_1) t191 _ A15.out).mono ?_); rintro e w' ⟨rfl, ⟨nd, rfl⟩⟩))
        go_roundg k1
        case measure => have := HK1.out; omega
        case rel => exact ⟨(ji17), (wrap64 (x19_1 + 1)), (by first | rfl | (simp; done) | (simp only [← hji17] <;> (first | rfl | (simp; done))) | (simp only [← hji17] <;> rw [u32_tmod]) | (simp only [← hji17] <;> simp <;> omega) | (simp [*]; done) | (simp <;> omega) | rw [u32_tmod]), (by first | rfl | (simp; done) | (simp [*]; done) | (simp <;> omega) | rw [u32_tmod]), H', ⟨by have := HK1.out; omega⟩, ⟨by (with_reducible repeat (first | apply Kd.R_alloc | apply Kd.R_drewN | apply Kd.R_drew)); exact HO_17.out⟩, ⟨by repeat (first | (with_reducible first | exact HB.out | apply below_alloc | apply pw_below_drewN | apply below_drew1) | exact HB.out)⟩⟩
       ·rw [if_neg c16] at H
        have c16b0 : (t191 == 105) = false := beq_eq_false_iff_ne.mpr c16
        have c16b1 : (t191 != 105) = true := bne_iff_ne.mpr c16
        have H' := Aside0.mk H
        clear H
        have p190 : 0 ≤ (x19_1 : Int) := of_decide_eq_true (by first | (with_reducible assumption) | assumption)
        have q190 : x19_1 < (y187.length : Int) := of_decide_eq_true (by first | (with_reducible assumption) | assumption)
        obtain ⟨ad190, e190, hx190_0⟩ := Kd.at_int (Kd.R_reads' HO_17.out).2.2 x19_1 p190 q190
        cases e190
        replace p190 := eq_true p190
        replace q190 := eq_true q190
        go_wp2_with (first | (go_at_call 90; (with_reducible refine (goscan_at.calls a0 (rd y187 x19_1) t191 _ A15.out).mono ?_); rintro e w' ⟨rfl, ⟨nd, rfl⟩⟩))
        go_roundg k1
        case measure => have := HK1.out; omega
        case rel => exact ⟨(x5_1), (wrap64 (x19_1 + 1)), (by first | rfl | (simp; done) | (simp [*]; done) | (simp <;> omega) | rw [u32_tmod]), (by first | rfl | (simp; done) | (simp [*]; done) | (simp <;> omega) | rw [u32_tmod]), H', ⟨by have := HK1.out; omega⟩, ⟨by (with_reducible repeat (first | apply Kd.R_alloc | apply Kd.R_drewN | apply Kd.R_drew)); exact HO_17.out⟩, ⟨by repeat (first | (with_reducible first | exact HB.out | apply below_alloc | apply pw_below_drewN | apply below_drew1) | exact HB.out)⟩⟩
      ·rw [if_neg c14] at H
       have c14b0 : decide (a1 < (rd y187 x19_1)) = false := decide_eq_false c14
       clear c14
       have H' := Aside0.mk H
       clear H
       have p190 : 0 ≤ (x19_1 : Int) := of_decide_eq_true (by first | (with_reducible assumption) | assumption)
       have q190 : x19_1 < (y187.length : Int) := of_decide_eq_true (by first | (with_reducible assumption) | assumption)
       obtain ⟨ad190, e190, hx190_0⟩ := Kd.at_int (Kd.R_reads' HO_17.out).2.2 x19_1 p190 q190
       cases e190
       replace p190 := eq_true p190
       replace q190 := eq_true q190
       go_wp2
       go_roundg k1
       case measure => have := HK1.out; omega
       case rel => exact ⟨(x5_1), (wrap64 (x19_1 + 1)), (by first | rfl | (simp; done) | (simp [*]; done) | (simp <;> omega) | rw [u32_tmod]), (by first | rfl | (simp; done) | (simp [*]; done) | (simp <;> omega) | rw [u32_tmod]), H', ⟨by have := HK1.out; omega⟩, ⟨by (with_reducible repeat (first | apply Kd.R_alloc | apply Kd.R_drewN | apply Kd.R_drew)); exact HO_17.out⟩, ⟨by repeat (first | (with_reducible first | exact HB.out | apply below_alloc | apply pw_below_drewN | apply below_drew1) | exact HB.out)⟩⟩
     ·rw [if_neg c13] at H
      exact absurd H (by simp)
    ·rw [if_neg c12] at H
     exact absurd H (by simp)
   ·rw [if_neg c11] at H
    have c11b0 : decide (x19_1 < (y187.length : Int)) = false := decide_eq_false c11
    clear c11
    obtain rfl := Option.some.inj H
    go_wp2
    go_ret
    exact ⟨by first | rfl | (simp [errW_none, errW_some] <;> rfl) | (simp [*, errW_none, errW_some] <;> rfl), by repeat (first | (with_reducible first | exact HB.out | apply below_alloc | apply pw_below_drewN | apply below_drew1) | exact HB.out)⟩
def goscan_digits16.l0 : Nat → ByteArray → Int → Int → Int → Int → Option (Int)
 | 0, _, _, _, _, _ => none
 | k + 1, x0, x1, x2, x7, x8 => if x8 < (wrap64 (x1 + x2)) then ((goscan_at.f x0 x8).bind fun t192 => ((goscan_digit.f t192 16).bind fun t193 => (if t193 = true then (if 0 ≤ x8 then (if x8 < (x0.size : Int) then ((strings_IndexByte.f (⟨#[48, 49, 50, 51, 52, 53, 54, 55, 56, 57, 97, 98, 99, 100, 101, 102]⟩ : ByteArray) (Go.bits .or .u8 (bt x0 x8) 32)).bind fun t194 => (goscan_digits16.l0 k x0 x1 x2 (wrap64 ((wrap64 (x7 * 16)) + t194)) (wrap64 (x8 + 1)))) else (none)) else (none)) else (some (-1))))) else (some x7)
def goscan_digits16.f (k : Nat) (a0 : ByteArray) (a1 : Int) (a2 : Int) : Option (Int) := goscan_digits16.l0 k a0 a1 a2 0 a1
theorem goscan_digits16.mono_l : ∀ k, (∀ y0 y1 y2 y3 y4, LeO (goscan_digits16.l0 k y0 y1 y2 y3 y4) (goscan_digits16.l0 (k + 1) y0 y1 y2 y3 y4))
 | 0 => fun _ _ _ _ _ r h => by simp [goscan_digits16.l0] at h
 | k + 1 => by
  have ih0 := goscan_digits16.mono_l k
  ·intro y0 y1 y2 y3 y4
   unfold goscan_digits16.l0
   repeat' first
   | (with_reducible exact ih0 _ _ _ _ _)
   | (with_reducible exact LeO.refl _)
   | (with_reducible exact LeO.none _)
   | (with_reducible refine LeO.ite ?_ ?_)
   | (with_reducible refine LeO.bind ?_ (fun _ => ?_))
   | exact ih0 _ _ _ _ _
   | exact LeO.none _
   | refine LeO.ite ?_ ?_
   | refine LeO.bind ?_ (fun _ => ?_)
theorem goscan_digits16.mono : ∀ a0 a1 a2 k, LeO (goscan_digits16.f k a0 a1 a2) (goscan_digits16.f (k + 1) a0 a1 a2) := by
 intro a0 a1 a2 k
 have ih0 := goscan_digits16.mono_l k
 unfold goscan_digits16.f
 repeat' first
   | (with_reducible exact ih0 _ _ _ _ _)
   | (with_reducible exact LeO.refl _)
   | (with_reducible exact LeO.none _)
   | (with_reducible refine LeO.ite ?_ ?_)
   | (with_reducible refine LeO.bind ?_ (fun _ => ?_))
   | exact ih0 _ _ _ _ _
   | exact LeO.none _
   | refine LeO.ite ?_ ?_
   | refine LeO.bind ?_ (fun _ => ?_)
set_option maxHeartbeats 8000000 in
set_option maxRecDepth 100000 in
theorem goscan_digits16.calls (k : Nat) (a0 : ByteArray) (a1 : Int) (a2 : Int) (r : Int) (w : World) (h : goscan_digits16.f k a0 a1 a2 = some r) :
  Calls Try.prog 109 #[.string a0, .int .i64 a1, .int .i64 a2] w fun e w' => e = .returned (.int .i64 r) ∧ Drawn0 w w' := by
 have H : (goscan_digits16.l0 k a0 a1 a2 0 a1) = some r := h
 clear h
 have H' := Aside0.mk H
 clear H
 go_enter Try.func109, Try.ntmps109
 go_wp2
 go_loopg [7, 8] k (fun kq v7 v8 w' => ∃ (x7_1 : Int) (x8_1 : Int), v7 = .int .i64 x7_1 ∧ v8 = .int .i64 x8_1 ∧ Aside0 (goscan_digits16.l0 kq a0 a1 a2 x7_1 x8_1 = some r) ∧ Aside0 (kq ≤ k) ∧ Drawn0 w w')
 case atStart => exact ⟨(0), (a1), (by first | rfl | (simp; done) | (simp [*]; done) | (simp <;> omega) | rw [u32_tmod]), (by first | rfl | (simp; done) | (simp [*]; done) | (simp <;> omega) | rw [u32_tmod]), H', ⟨Nat.le_refl _⟩, by repeat (first | exact Drawn0.refl _ | apply Drawn0.step)⟩
 case round =>
  clear H'
  try clear c1
  try clear p2
  obtain ⟨x7_1, x8_1, rfl, rfl, HA, HK1, ⟨m1, rfl⟩⟩ := hrel
  cases gk with
  | zero => exact absurd HA.out (by simp [goscan_digits16.l0])
  | succ k1 =>
   have H := HA.out
   clear HA
   simp only [goscan_digits16.l0] at H
   by_cases c4 : x8_1 < (wrap64 (a1 + a2))
   ·rw [if_pos c4] at H
    have c4b0 : decide (x8_1 < (wrap64 (a1 + a2))) = true := decide_eq_true c4
    clear c4
    replace H := Option.bind_eq_some_iff.mp H
    obtain ⟨t192, A50, H⟩ := H
    replace H : ((goscan_digit.f t192 16).bind fun t193 => (if t193 = true then (if 0 ≤ x8_1 then (if x8_1 < (a0.size : Int) then ((strings_IndexByte.f (⟨#[48, 49, 50, 51, 52, 53, 54, 55, 56, 57, 97, 98, 99, 100, 101, 102]⟩ : ByteArray) (Go.bits .or .u8 (bt a0 x8_1) 32)).bind fun t194 => (goscan_digits16.l0 k1 a0 a1 a2 (wrap64 ((wrap64 (x7_1 * 16)) + t194)) (wrap64 (x8_1 + 1)))) else (none)) else (none)) else (some (-1)))) = some r := H
    have A5 := Aside0.mk A50
    clear A50
    replace H := Option.bind_eq_some_iff.mp H
    obtain ⟨t193, A60, H⟩ := H
    replace H : (if t193 = true then (if 0 ≤ x8_1 then (if x8_1 < (a0.size : Int) then ((strings_IndexByte.f (⟨#[48, 49, 50, 51, 52, 53, 54, 55, 56, 57, 97, 98, 99, 100, 101, 102]⟩ : ByteArray) (Go.bits .or .u8 (bt a0 x8_1) 32)).bind fun t194 => (goscan_digits16.l0 k1 a0 a1 a2 (wrap64 ((wrap64 (x7_1 * 16)) + t194)) (wrap64 (x8_1 + 1)))) else (none)) else (none)) else (some (-1))) = some r := H
    have A6 := Aside0.mk A60
    clear A60
    by_cases c7 : t193 = true
    ·subst c7
     have H1 : (if 0 ≤ x8_1 then (if x8_1 < (a0.size : Int) then ((strings_IndexByte.f (⟨#[48, 49, 50, 51, 52, 53, 54, 55, 56, 57, 97, 98, 99, 100, 101, 102]⟩ : ByteArray) (Go.bits .or .u8 (bt a0 x8_1) 32)).bind fun t194 => (goscan_digits16.l0 k1 a0 a1 a2 (wrap64 ((wrap64 (x7_1 * 16)) + t194)) (wrap64 (x8_1 + 1)))) else (none)) else (none)) = some r := by rw [if_pos rfl] at H; exact H
     clear H
     have H := H1
     clear H1
     by_cases c8 : 0 ≤ x8_1
     ·rw [if_pos c8] at H
      have c8b0 : decide (0 ≤ x8_1) = true := decide_eq_true c8
      clear c8
      by_cases c9 : x8_1 < (a0.size : Int)
      ·rw [if_pos c9] at H
       have c9b0 : decide (x8_1 < (a0.size : Int)) = true := decide_eq_true c9
       clear c9
       replace H := Option.bind_eq_some_iff.mp H
       obtain ⟨t194, A110, H⟩ := H
       replace H : (goscan_digits16.l0 k1 a0 a1 a2 (wrap64 ((wrap64 (x7_1 * 16)) + t194)) (wrap64 (x8_1 + 1))) = some r := H
       have A11 := Aside0.mk A110
       clear A110
       have H' := Aside0.mk H
       clear H
       go_wp2_with (first | ((with_reducible refine gate_callee (f := 90) rfl ?_); refine goesL_ (some 20) rfl rfl Try.func90 (by kernel_rfl) rfl #[.string a0, .int .i64 x8_1] rfl (by (try simp only [List.map_toArray, List.map_cons, List.map_nil]); first | done | rfl | (simp only [List.length_drop, List.length_take]; rfl)) ?_; (with_reducible refine (goscan_at.calls a0 x8_1 t192 _ A5.out).mono ?_); rintro e w' ⟨rfl, ⟨nd, rfl⟩⟩; refine ⟨_, rfl, ?_⟩) | ((with_reducible refine gate_callee (f := 93) rfl ?_); refine goesL_ (some 21) rfl rfl Try.func93 (by kernel_rfl) rfl #[.int .u8 t192, .int .i64 16] rfl (by (try simp only [List.map_toArray, List.map_cons, List.map_nil]); first | done | rfl | (simp only [List.length_drop, List.length_take]; rfl)) ?_; (with_reducible refine (goscan_digit.calls t192 16 true _ A6.out).mono ?_); rintro e w' ⟨rfl, ⟨nd, rfl⟩⟩; refine ⟨_, rfl, ?_⟩; have p10 : 0 ≤ (x8_1 : Int) := of_decide_eq_true (by first | (with_reducible assumption) | assumption); have q10 : x8_1 < (a0.size : Int) := of_decide_eq_true (by first | (with_reducible assumption) | assumption); have hx10 := bt_at a0 x8_1; replace p10 := eq_true p10; replace q10 := eq_true q10) | ((with_reducible refine gate_callee (f := 89) rfl ?_); refine goesL_ (some 27) rfl rfl Try.func89 (by kernel_rfl) rfl #[.string (⟨#[48, 49, 50, 51, 52, 53, 54, 55, 56, 57, 97, 98, 99, 100, 101, 102]⟩ : ByteArray), .int .u8 (Go.bits .or .u8 (bt a0 x8_1) 32)] rfl (by (try simp only [List.map_toArray, List.map_cons, List.map_nil]); first | done | rfl | (simp only [List.length_drop, List.length_take]; rfl)) ?_; (with_reducible refine (strings_IndexByte.calls (⟨#[48, 49, 50, 51, 52, 53, 54, 55, 56, 57, 97, 98, 99, 100, 101, 102]⟩ : ByteArray) (Go.bits .or .u8 (bt a0 x8_1) 32) t194 _ A11.out).mono ?_); rintro e w' ⟨rfl, ⟨nd, rfl⟩⟩; refine ⟨_, rfl, ?_⟩))
       go_roundg k1
       case measure => have := HK1.out; omega
       case rel => exact ⟨(wrap64 ((wrap64 (x7_1 * 16)) + t194)), (wrap64 (x8_1 + 1)), (by first | rfl | (simp; done) | (simp [*]; done) | (simp <;> omega) | rw [u32_tmod]), (by first | rfl | (simp; done) | (simp [*]; done) | (simp <;> omega) | rw [u32_tmod]), H', ⟨by have := HK1.out; omega⟩, by repeat (first | exact Drawn0.refl _ | apply Drawn0.step)⟩
      ·rw [if_neg c9] at H
       exact absurd H (by simp)
     ·rw [if_neg c8] at H
      exact absurd H (by simp)
    ·replace c7 := Bool.eq_false_iff.mpr c7
     subst c7
     have H1 : (some (-1)) = some r := by rw [if_neg (show ¬ (false = true) by decide)] at H; exact H
     clear H
     have H := H1
     clear H1
     obtain rfl := Option.some.inj H
     go_wp2_with (first | ((with_reducible refine gate_callee (f := 90) rfl ?_); refine goesL_ (some 20) rfl rfl Try.func90 (by kernel_rfl) rfl #[.string a0, .int .i64 x8_1] rfl (by (try simp only [List.map_toArray, List.map_cons, List.map_nil]); first | done | rfl | (simp only [List.length_drop, List.length_take]; rfl)) ?_; (with_reducible refine (goscan_at.calls a0 x8_1 t192 _ A5.out).mono ?_); rintro e w' ⟨rfl, ⟨nd, rfl⟩⟩; refine ⟨_, rfl, ?_⟩) | ((with_reducible refine gate_callee (f := 93) rfl ?_); refine goesL_ (some 21) rfl rfl Try.func93 (by kernel_rfl) rfl #[.int .u8 t192, .int .i64 16] rfl (by (try simp only [List.map_toArray, List.map_cons, List.map_nil]); first | done | rfl | (simp only [List.length_drop, List.length_take]; rfl)) ?_; (with_reducible refine (goscan_digit.calls t192 16 false _ A6.out).mono ?_); rintro e w' ⟨rfl, ⟨nd, rfl⟩⟩; refine ⟨_, rfl, ?_⟩))
     go_ret
     exact ⟨by first | rfl | (simp; done) | (simp [*]; done) | (simp <;> omega) | rw [u32_tmod], by repeat (first | exact Drawn0.refl _ | apply Drawn0.step)⟩
   ·rw [if_neg c4] at H
    have c4b0 : decide (x8_1 < (wrap64 (a1 + a2))) = false := decide_eq_false c4
    clear c4
    obtain rfl := Option.some.inj H
    go_wp2
    go_ret
    exact ⟨by first | rfl | (simp; done) | (simp [*]; done) | (simp <;> omega) | rw [u32_tmod], by repeat (first | exact Drawn0.refl _ | apply Drawn0.step)⟩
end Go.Proofs.Ytcajiapjdlphmaa.H
