import Derived.Test.YtcajiapjdlphmaaGPre
import Derived.Test.YtcajiapjdlphmaaGabcdefx0
import Derived.Test.YtcajiapjdlphmaaGabcdefx1
import Derived.Test.YtcajiapjdlphmaaGabcdefx3
namespace Go.Proofs.Ytcajiapjdlphmaa.H
open Go.RowKit Go.Proofs.YtcajiapjdlphmaaW.PrintWords Go.Proofs.YtcajiapjdlphmaaW.PrintLast Go.Proofs.YtcajiapjdlphmaaW.PrintMore
attribute [local go_sem] max2_int min2_int max_two min_two max_three min_three max_four min_four
set_option linter.unusedVariables false
set_option linter.unusedSimpArgs false
mutual
def goscan_escapeForm.j0 : Nat → ByteArray → Int → Int → Bool → Option (Int)
 | 0, _, _, _, _ => none
 | k + 1, x0, x1, x2, x20 => if x20 = true then (some (-1)) else (if 0 ≤ (wrap64 (x1 + 1)) then (if (wrap64 (x1 + 1)) < (x0.size : Int) then (if (bt x0 (wrap64 (x1 + 1))) = x2 then (goscan_escapeForm.j1 k x0 x1 (bt x0 (wrap64 (x1 + 1))) true) else ((strings_IndexByte.f (⟨#[97, 98, 102, 110, 114, 116, 118, 92]⟩ : ByteArray) (bt x0 (wrap64 (x1 + 1)))).bind fun t196 => (goscan_escapeForm.j1 k x0 x1 (bt x0 (wrap64 (x1 + 1))) (decide (t196 ≥ 0))))) else (none)) else (none))
def goscan_escapeForm.j1 : Nat → ByteArray → Int → Int → Bool → Option (Int)
 | 0, _, _, _, _ => none
 | k + 1, x0, x1, x7, x25 => if x25 = true then (some (wrap64 (x1 + 2))) else (if x7 ≥ 48 then (goscan_escapeForm.j2 k x0 x1 x7 (decide (x7 ≤ 51))) else (goscan_escapeForm.j2 k x0 x1 x7 false))
def goscan_escapeForm.j2 : Nat → ByteArray → Int → Int → Bool → Option (Int)
 | 0, _, _, _, _ => none
 | k + 1, x0, x1, x7, x36 => if x36 = true then ((goscan_at.f x0 (wrap64 (x1 + 2))).bind fun t197 => ((goscan_digit.f t197 8).bind fun t198 => (if t198 = true then ((goscan_at.f x0 (wrap64 (x1 + 3))).bind fun t199 => ((goscan_digit.f t199 8).bind fun t200 => (if t200 = true then (some (wrap64 (x1 + 4))) else (some (-1))))) else (some (-1))))) else (if x7 = 120 then ((goscan_digits16.f k x0 (wrap64 (x1 + 2)) 2).bind fun t201 => (if t201 ≥ 0 then (some (wrap64 (x1 + 4))) else (some (-1)))) else (if x7 = 117 then (goscan_escapeForm.j3 k x0 x1 x7 true) else (goscan_escapeForm.j3 k x0 x1 x7 (x7 == 85))))
def goscan_escapeForm.j3 : Nat → ByteArray → Int → Int → Bool → Option (Int)
 | 0, _, _, _, _ => none
 | k + 1, x0, x1, x7, x67 => if x67 = true then (if x7 = 85 then ((goscan_digits16.f k x0 (wrap64 (x1 + 2)) 8).bind fun t202 => (if t202 ≥ 0 then (if t202 ≤ 1114111 then (if t202 < 55296 then (some (wrap64 ((wrap64 (x1 + 2)) + 8))) else (if t202 > 57343 then (some (wrap64 ((wrap64 (x1 + 2)) + 8))) else (some (-1)))) else (some (-1))) else (some (-1)))) else ((goscan_digits16.f k x0 (wrap64 (x1 + 2)) 4).bind fun t203 => (if t203 ≥ 0 then (if t203 ≤ 1114111 then (if t203 < 55296 then (some (wrap64 ((wrap64 (x1 + 2)) + 4))) else (if t203 > 57343 then (some (wrap64 ((wrap64 (x1 + 2)) + 4))) else (some (-1)))) else (some (-1))) else (some (-1))))) else (some (-1))
end
def goscan_escapeForm.f (k : Nat) (a0 : ByteArray) (a1 : Int) (a2 : Int) : Option (Int) := (goscan_at.f a0 a1).bind fun t195 => (if t195 = 92 then (goscan_escapeForm.j0 k a0 a1 a2 (decide ((wrap64 (a1 + 1)) ≥ (a0.size : Int)))) else (goscan_escapeForm.j0 k a0 a1 a2 true))
theorem goscan_escapeForm.mono_l : ∀ k, (∀ y0 y1 y2 y3, LeO (goscan_escapeForm.j0 k y0 y1 y2 y3) (goscan_escapeForm.j0 (k + 1) y0 y1 y2 y3)) ∧ (∀ y0 y1 y2 y3, LeO (goscan_escapeForm.j1 k y0 y1 y2 y3) (goscan_escapeForm.j1 (k + 1) y0 y1 y2 y3)) ∧ (∀ y0 y1 y2 y3, LeO (goscan_escapeForm.j2 k y0 y1 y2 y3) (goscan_escapeForm.j2 (k + 1) y0 y1 y2 y3)) ∧ (∀ y0 y1 y2 y3, LeO (goscan_escapeForm.j3 k y0 y1 y2 y3) (goscan_escapeForm.j3 (k + 1) y0 y1 y2 y3))
 | 0 => ⟨fun _ _ _ _ r h => by simp [goscan_escapeForm.j0] at h, fun _ _ _ _ r h => by simp [goscan_escapeForm.j1] at h, fun _ _ _ _ r h => by simp [goscan_escapeForm.j2] at h, fun _ _ _ _ r h => by simp [goscan_escapeForm.j3] at h⟩
 | k + 1 => by
  obtain ⟨ih0, ih1, ih2, ih3⟩ := goscan_escapeForm.mono_l k
  refine ⟨?_, ?_, ?_, ?_⟩
  ·intro y0 y1 y2 y3
   unfold goscan_escapeForm.j0
   repeat' first
   | (with_reducible exact ih0 _ _ _ _)
   | (with_reducible exact ih1 _ _ _ _)
   | (with_reducible exact ih2 _ _ _ _)
   | (with_reducible exact ih3 _ _ _ _)
   | (with_reducible exact goscan_digits16.mono _ _ _ _)
   | (with_reducible exact LeO.refl _)
   | (with_reducible exact LeO.none _)
   | (with_reducible refine LeO.ite ?_ ?_)
   | (with_reducible refine LeO.bind ?_ (fun _ => ?_))
   | exact ih0 _ _ _ _
   | exact ih1 _ _ _ _
   | exact ih2 _ _ _ _
   | exact ih3 _ _ _ _
   | exact goscan_digits16.mono _ _ _ _
   | exact LeO.none _
   | refine LeO.ite ?_ ?_
   | refine LeO.bind ?_ (fun _ => ?_)
  ·intro y0 y1 y2 y3
   unfold goscan_escapeForm.j1
   repeat' first
   | (with_reducible exact ih0 _ _ _ _)
   | (with_reducible exact ih1 _ _ _ _)
   | (with_reducible exact ih2 _ _ _ _)
   | (with_reducible exact ih3 _ _ _ _)
   | (with_reducible exact goscan_digits16.mono _ _ _ _)
   | (with_reducible exact LeO.refl _)
   | (with_reducible exact LeO.none _)
   | (with_reducible refine LeO.ite ?_ ?_)
   | (with_reducible refine LeO.bind ?_ (fun _ => ?_))
   | exact ih0 _ _ _ _
   | exact ih1 _ _ _ _
   | exact ih2 _ _ _ _
   | exact ih3 _ _ _ _
   | exact goscan_digits16.mono _ _ _ _
   | exact LeO.none _
   | refine LeO.ite ?_ ?_
   | refine LeO.bind ?_ (fun _ => ?_)
  ·intro y0 y1 y2 y3
   unfold goscan_escapeForm.j2
   repeat' first
   | (with_reducible exact ih0 _ _ _ _)
   | (with_reducible exact ih1 _ _ _ _)
   | (with_reducible exact ih2 _ _ _ _)
   | (with_reducible exact ih3 _ _ _ _)
   | (with_reducible exact goscan_digits16.mono _ _ _ _)
   | (with_reducible exact LeO.refl _)
   | (with_reducible exact LeO.none _)
   | (with_reducible refine LeO.ite ?_ ?_)
   | (with_reducible refine LeO.bind ?_ (fun _ => ?_))
   | exact ih0 _ _ _ _
   | exact ih1 _ _ _ _
   | exact ih2 _ _ _ _
   | exact ih3 _ _ _ _
   | exact goscan_digits16.mono _ _ _ _
   | exact LeO.none _
   | refine LeO.ite ?_ ?_
   | refine LeO.bind ?_ (fun _ => ?_)
  ·intro y0 y1 y2 y3
   unfold goscan_escapeForm.j3
   repeat' first
   | (with_reducible exact ih0 _ _ _ _)
   | (with_reducible exact ih1 _ _ _ _)
   | (with_reducible exact ih2 _ _ _ _)
   | (with_reducible exact ih3 _ _ _ _)
   | (with_reducible exact goscan_digits16.mono _ _ _ _)
   | (with_reducible exact LeO.refl _)
   | (with_reducible exact LeO.none _)
   | (with_reducible refine LeO.ite ?_ ?_)
   | (with_reducible refine LeO.bind ?_ (fun _ => ?_))
   | exact ih0 _ _ _ _
   | exact ih1 _ _ _ _
   | exact ih2 _ _ _ _
   | exact ih3 _ _ _ _
   | exact goscan_digits16.mono _ _ _ _
   | exact LeO.none _
   | refine LeO.ite ?_ ?_
   | refine LeO.bind ?_ (fun _ => ?_)
theorem goscan_escapeForm.mono : ∀ a0 a1 a2 k, LeO (goscan_escapeForm.f k a0 a1 a2) (goscan_escapeForm.f (k + 1) a0 a1 a2) := by
 intro a0 a1 a2 k
 obtain ⟨ih0, ih1, ih2, ih3⟩ := goscan_escapeForm.mono_l k
 unfold goscan_escapeForm.f
 repeat' first
   | (with_reducible exact ih0 _ _ _ _)
   | (with_reducible exact ih1 _ _ _ _)
   | (with_reducible exact ih2 _ _ _ _)
   | (with_reducible exact ih3 _ _ _ _)
   | (with_reducible exact goscan_digits16.mono _ _ _ _)
   | (with_reducible exact LeO.refl _)
   | (with_reducible exact LeO.none _)
   | (with_reducible refine LeO.ite ?_ ?_)
   | (with_reducible refine LeO.bind ?_ (fun _ => ?_))
   | exact ih0 _ _ _ _
   | exact ih1 _ _ _ _
   | exact ih2 _ _ _ _
   | exact ih3 _ _ _ _
   | exact goscan_digits16.mono _ _ _ _
   | exact LeO.none _
   | refine LeO.ite ?_ ?_
   | refine LeO.bind ?_ (fun _ => ?_)
set_option maxHeartbeats 8000000 in
set_option maxRecDepth 100000 in
theorem goscan_escapeForm.calls (k : Nat) (a0 : ByteArray) (a1 : Int) (a2 : Int) (r : Int) (w : World) (h : goscan_escapeForm.f k a0 a1 a2 = some r) :
  Calls Try.prog 105 #[.string a0, .int .i64 a1, .int .u8 a2] w fun e w' => e = .returned (.int .i64 r) ∧ Drawn0 w w' := by
 have H : ((goscan_at.f a0 a1).bind fun t195 => (if t195 = 92 then (goscan_escapeForm.j0 k a0 a1 a2 (decide ((wrap64 (a1 + 1)) ≥ (a0.size : Int)))) else (goscan_escapeForm.j0 k a0 a1 a2 true))) = some r := h
 clear h
 have HC4 := Aside0.mk H
 clear H
 go_enter Try.func105, Try.ntmps105
 go_upto_region 1 with (fail)
 go_cut [20] (fun v20 wc => ∃ (kq : Nat) (x20_3 : Bool), v20 = .bool x20_3 ∧ Aside0 (goscan_escapeForm.j0 kq a0 a1 a2 x20_3 = some r) ∧ Aside0 (kq ≤ k) ∧ Drawn0 w wc)
 case first =>
  have H := HC4.out
  clear HC4
  replace H := Option.bind_eq_some_iff.mp H
  obtain ⟨t195, A50, H⟩ := H
  replace H : (if t195 = 92 then (goscan_escapeForm.j0 k a0 a1 a2 (decide ((wrap64 (a1 + 1)) ≥ (a0.size : Int)))) else (goscan_escapeForm.j0 k a0 a1 a2 true)) = some r := H
  have A5 := Aside0.mk A50
  clear A50
  by_cases c6 : t195 = 92
  ·rw [if_pos c6] at H
   have c6b0 : (t195 == 92) = true := beq_iff_eq.mpr c6
   have c6b1 : (t195 != 92) = false := bne_eq_false_iff_eq.mpr c6
   clear c6
   (first | rw [c6b0] | (simp only [i64_w, i32_w]; rw [c6b0]) | skip)
   have H' := Aside0.mk H
   clear H
   go_wp2_with (first | ((with_reducible refine gate_callee (f := 90) rfl ?_); refine goesL_ (some 12) rfl rfl Try.func90 (by kernel_rfl) rfl #[.string a0, .int .i64 a1] rfl (by (try simp only [List.map_toArray, List.map_cons, List.map_nil]); first | done | rfl | (simp only [List.length_drop, List.length_take]; rfl)) ?_; (with_reducible refine (goscan_at.calls a0 a1 t195 _ A5.out).mono ?_); rintro e w' ⟨rfl, ⟨nd, rfl⟩⟩; refine ⟨_, rfl, ?_⟩))
   go_meet
   case rel => exact ⟨_, (decide ((wrap64 (a1 + 1)) ≥ (a0.size : Int))), (by first | rfl | (simp; done) | (simp [*]; done) | (simp <;> omega) | rw [u32_tmod]), H', ⟨by first | omega | exact Nat.le_refl _⟩, by repeat (first | exact Drawn0.refl _ | apply Drawn0.step)⟩
  ·rw [if_neg c6] at H
   have c6b0 : (t195 == 92) = false := beq_eq_false_iff_ne.mpr c6
   have c6b1 : (t195 != 92) = true := bne_iff_ne.mpr c6
   (first | rw [c6b0] | (simp only [i64_w, i32_w]; rw [c6b0]) | skip)
   have H' := Aside0.mk H
   clear H
   go_wp2_with (first | ((with_reducible refine gate_callee (f := 90) rfl ?_); refine goesL_ (some 12) rfl rfl Try.func90 (by kernel_rfl) rfl #[.string a0, .int .i64 a1] rfl (by (try simp only [List.map_toArray, List.map_cons, List.map_nil]); first | done | rfl | (simp only [List.length_drop, List.length_take]; rfl)) ?_; (with_reducible refine (goscan_at.calls a0 a1 t195 _ A5.out).mono ?_); rintro e w' ⟨rfl, ⟨nd, rfl⟩⟩; refine ⟨_, rfl, ?_⟩))
   go_meet
   case rel => exact ⟨_, (true), (by first | rfl | (simp; done) | (simp [*]; done) | (simp <;> omega) | rw [u32_tmod]), H', ⟨by first | omega | exact Nat.le_refl _⟩, by repeat (first | exact Drawn0.refl _ | apply Drawn0.step)⟩
 case rest =>
  clear HC4
  try clear c1
  try clear p2
  try clear c6
  try clear c6b0
  try clear c6b1
  try clear p6
  obtain ⟨kq, x20_3, rfl, HA, HJ3, ⟨mc3, rfl⟩⟩ := hcut
  cases kq with
  | zero => exact absurd HA.out (by simp [goscan_escapeForm.j0])
  | succ kj3 =>
   have H := HA.out
   clear HA
   simp only [goscan_escapeForm.j0] at H
   by_cases c7 : x20_3 = true
   ·subst c7
    have H1 : (some (-1)) = some r := by rw [if_pos rfl] at H; exact H
    clear H
    have H := H1
    clear H1
    obtain rfl := Option.some.inj H
    go_wp2
    go_ret
    exact ⟨by first | rfl | (simp; done) | (simp [*]; done) | (simp <;> omega) | rw [u32_tmod], by repeat (first | exact Drawn0.refl _ | apply Drawn0.step)⟩
   ·replace c7 := Bool.eq_false_iff.mpr c7
    subst c7
    have H1 : (if 0 ≤ (wrap64 (a1 + 1)) then (if (wrap64 (a1 + 1)) < (a0.size : Int) then (if (bt a0 (wrap64 (a1 + 1))) = a2 then (goscan_escapeForm.j1 kj3 a0 a1 (bt a0 (wrap64 (a1 + 1))) true) else ((strings_IndexByte.f (⟨#[97, 98, 102, 110, 114, 116, 118, 92]⟩ : ByteArray) (bt a0 (wrap64 (a1 + 1)))).bind fun t196 => (goscan_escapeForm.j1 kj3 a0 a1 (bt a0 (wrap64 (a1 + 1))) (decide (t196 ≥ 0))))) else (none)) else (none)) = some r := by rw [if_neg (show ¬ (false = true) by decide)] at H; exact H
    clear H
    have H := H1
    clear H1
    obtain ⟨ji8, hji8⟩ : ∃ j_ : Int, (wrap64 (a1 + 1)) = j_ := ⟨_, rfl⟩
    replace H : (if 0 ≤ (ji8) then (if (ji8) < (a0.size : Int) then (if (bt a0 (ji8)) = a2 then (goscan_escapeForm.j1 kj3 a0 a1 (bt a0 (ji8)) true) else ((strings_IndexByte.f (⟨#[97, 98, 102, 110, 114, 116, 118, 92]⟩ : ByteArray) (bt a0 (ji8))).bind fun t196 => (goscan_escapeForm.j1 kj3 a0 a1 (bt a0 (ji8)) (decide (t196 ≥ 0))))) else (none)) else (none)) = some r := by first | (rw [hji8] at H; exact H) | (simp only [hji8] at H ⊢; exact H)
    have hji8w : (IntKind.i64.wrap (a1 + 1)) = ji8 := (i64_w _).trans hji8
    by_cases c9 : 0 ≤ (ji8)
    ·rw [if_pos c9] at H
     have c9b0 : decide (0 ≤ (ji8)) = true := decide_eq_true c9
     clear c9
     by_cases c10 : (ji8) < (a0.size : Int)
     ·rw [if_pos c10] at H
      have c10b0 : decide ((ji8) < (a0.size : Int)) = true := decide_eq_true c10
      clear c10
      have HC12 := Aside0.mk H
      clear H
      have p11 : 0 ≤ ((ji8) : Int) := of_decide_eq_true (by first | (with_reducible assumption) | assumption)
      have q11 : (ji8) < (a0.size : Int) := of_decide_eq_true (by first | (with_reducible assumption) | assumption)
      have hx11 := bt_at a0 (ji8)
      replace p11 := eq_true p11
      replace q11 := eq_true q11
      go_upto_region 4 with (fail)
      go_cut [25] (fun v25 wc => ∃ (kq : Nat) (x25_11 : Bool), v25 = .bool x25_11 ∧ Aside0 (goscan_escapeForm.j1 kq a0 a1 (bt a0 (ji8)) x25_11 = some r) ∧ Aside0 (kq ≤ kj3) ∧ Drawn0 w wc)
      case first =>
       have H := HC12.out
       clear HC12
       by_cases c13 : (bt a0 (ji8)) = a2
       ·rw [if_pos c13] at H
        have c13b0 : ((bt a0 (ji8)) == a2) = true := beq_iff_eq.mpr c13
        have c13b1 : ((bt a0 (ji8)) != a2) = false := bne_eq_false_iff_eq.mpr c13
        clear c13
        (first | rw [c13b0] | (simp only [i64_w, i32_w]; rw [c13b0]) | skip)
        have H' := Aside0.mk H
        clear H
        go_wp2
        go_meet
        case rel => exact ⟨_, (true), (by first | rfl | (simp; done) | (simp [*]; done) | (simp <;> omega) | rw [u32_tmod]), H', ⟨by have := HJ3.out; first | omega | exact Nat.le_refl _⟩, by repeat (first | exact Drawn0.refl _ | apply Drawn0.step)⟩
       ·rw [if_neg c13] at H
        have c13b0 : ((bt a0 (ji8)) == a2) = false := beq_eq_false_iff_ne.mpr c13
        have c13b1 : ((bt a0 (ji8)) != a2) = true := bne_iff_ne.mpr c13
        (first | rw [c13b0] | (simp only [i64_w, i32_w]; rw [c13b0]) | skip)
        replace H := Option.bind_eq_some_iff.mp H
        obtain ⟨t196, A140, H⟩ := H
        replace H : (goscan_escapeForm.j1 kj3 a0 a1 (bt a0 (ji8)) (decide (t196 ≥ 0))) = some r := H
        have A14 := Aside0.mk A140
        clear A140
        have H' := Aside0.mk H
        clear H
        go_wp2_with (first | (go_at_call 89; (with_reducible refine (strings_IndexByte.calls (⟨#[97, 98, 102, 110, 114, 116, 118, 92]⟩ : ByteArray) (bt a0 (ji8)) t196 _ A14.out).mono ?_); rintro e w' ⟨rfl, ⟨nd, rfl⟩⟩))
        go_meet
        case rel => exact ⟨_, (decide (t196 ≥ 0)), (by first | rfl | (simp; done) | (simp [*]; done) | (simp <;> omega) | rw [u32_tmod]), H', ⟨by have := HJ3.out; first | omega | exact Nat.le_refl _⟩, by repeat (first | exact Drawn0.refl _ | apply Drawn0.step)⟩
      case rest =>
       clear HC12
       try clear c1
       try clear p1
       try clear q1
       try clear hx1
       try clear p2
       try clear c3
       try clear c6
       try clear c6b0
       try clear c6b1
       try clear p6
       try clear c7
       try clear c9
       try clear c9b0
       try clear c10
       try clear c10b0
       try clear p11
       try clear q11
       try clear hx11
       try clear c13
       try clear c13b0
       try clear c13b1
       try clear p11
       try clear p2
       try clear p6
       try clear q11
       obtain ⟨kq, x25_11, rfl, HA, HJ11, ⟨mc11, rfl⟩⟩ := hcut
       cases kq with
       | zero => exact absurd HA.out (by simp [goscan_escapeForm.j1])
       | succ kj11 =>
        have H := HA.out
        clear HA
        simp only [goscan_escapeForm.j1] at H
        by_cases c15 : x25_11 = true
        ·subst c15
         have H1 : (some (wrap64 (a1 + 2))) = some r := by rw [if_pos rfl] at H; exact H
         clear H
         have H := H1
         clear H1
         obtain rfl := Option.some.inj H
         go_wp2
         go_ret
         exact ⟨by first | rfl | (simp; done) | (simp only [← hji8] <;> (first | rfl | (simp; done))) | (simp only [← hji8] <;> rw [u32_tmod]) | (simp only [← hji8] <;> simp <;> omega) | (simp [*]; done) | (simp <;> omega) | rw [u32_tmod], by repeat (first | exact Drawn0.refl _ | apply Drawn0.step)⟩
        ·replace c15 := Bool.eq_false_iff.mpr c15
         subst c15
         have H1 : (if (bt a0 (ji8)) ≥ 48 then (goscan_escapeForm.j2 kj11 a0 a1 (bt a0 (ji8)) (decide ((bt a0 (ji8)) ≤ 51))) else (goscan_escapeForm.j2 kj11 a0 a1 (bt a0 (ji8)) false)) = some r := by rw [if_neg (show ¬ (false = true) by decide)] at H; exact H
         clear H
         have H := H1
         clear H1
         have HC16 := Aside0.mk H
         clear H
         go_upto_region 6 with (fail)
         go_cut [36] (fun v36 wc => ∃ (kq : Nat) (x36_15 : Bool), v36 = .bool x36_15 ∧ Aside0 (goscan_escapeForm.j2 kq a0 a1 (bt a0 (ji8)) x36_15 = some r) ∧ Aside0 (kq ≤ kj11) ∧ Drawn0 w wc)
         case first =>
          have H := HC16.out
          clear HC16
          by_cases c17 : (bt a0 (ji8)) ≥ 48
          ·rw [if_pos c17] at H
           have c17b0 : decide (48 ≤ (bt a0 (ji8))) = true := decide_eq_true c17
           clear c17
           (first | rw [c17b0] | (simp only [i64_w, i32_w]; rw [c17b0]) | skip)
           have H' := Aside0.mk H
           clear H
           go_wp2
           go_meet
           case rel => exact ⟨_, (decide ((bt a0 (ji8)) ≤ 51)), (by first | rfl | (simp; done) | (simp only [← hji8] <;> (first | rfl | (simp; done))) | (simp only [← hji8] <;> rw [u32_tmod]) | (simp only [← hji8] <;> simp <;> omega) | (simp [*]; done) | (simp <;> omega) | rw [u32_tmod]), H', ⟨by have := HJ3.out; have := HJ11.out; first | omega | exact Nat.le_refl _⟩, by repeat (first | exact Drawn0.refl _ | apply Drawn0.step)⟩
          ·rw [if_neg c17] at H
           have c17b0 : decide (48 ≤ (bt a0 (ji8))) = false := decide_eq_false c17
           clear c17
           (first | rw [c17b0] | (simp only [i64_w, i32_w]; rw [c17b0]) | skip)
           have H' := Aside0.mk H
           clear H
           go_wp2
           go_meet
           case rel => exact ⟨_, (false), (by first | rfl | (simp; done) | (simp [*]; done) | (simp <;> omega) | rw [u32_tmod]), H', ⟨by have := HJ3.out; have := HJ11.out; first | omega | exact Nat.le_refl _⟩, by repeat (first | exact Drawn0.refl _ | apply Drawn0.step)⟩
         case rest =>
          clear HC16
          try clear c1
          try clear p1
          try clear q1
          try clear hx1
          try clear p2
          try clear c3
          try clear c6
          try clear c6b0
          try clear c6b1
          try clear p6
          try clear c7
          try clear c9
          try clear c9b0
          try clear c10
          try clear c10b0
          try clear c11
          try clear p11
          try clear q11
          try clear hx11
          try clear c13
          try clear c13b0
          try clear c13b1
          try clear c15
          try clear c17
          try clear c17b0
          try clear p1
          try clear p11
          try clear p2
          try clear p6
          try clear q1
          try clear q11
          obtain ⟨kq, x36_15, rfl, HA, HJ15, ⟨mc15, rfl⟩⟩ := hcut
          cases kq with
          | zero => exact absurd HA.out (by simp [goscan_escapeForm.j2])
          | succ kj15 =>
           have H := HA.out
           clear HA
           simp only [goscan_escapeForm.j2] at H
           by_cases c18 : x36_15 = true
           ·subst c18
            have H1 : ((goscan_at.f a0 (wrap64 (a1 + 2))).bind fun t197 => ((goscan_digit.f t197 8).bind fun t198 => (if t198 = true then ((goscan_at.f a0 (wrap64 (a1 + 3))).bind fun t199 => ((goscan_digit.f t199 8).bind fun t200 => (if t200 = true then (some (wrap64 (a1 + 4))) else (some (-1))))) else (some (-1))))) = some r := by rw [if_pos rfl] at H; exact H
            clear H
            have H := H1
            clear H1
            replace H := Option.bind_eq_some_iff.mp H
            obtain ⟨t197, A190, H⟩ := H
            replace H : ((goscan_digit.f t197 8).bind fun t198 => (if t198 = true then ((goscan_at.f a0 (wrap64 (a1 + 3))).bind fun t199 => ((goscan_digit.f t199 8).bind fun t200 => (if t200 = true then (some (wrap64 (a1 + 4))) else (some (-1))))) else (some (-1)))) = some r := H
            have A19 := Aside0.mk A190
            clear A190
            replace H := Option.bind_eq_some_iff.mp H
            obtain ⟨t198, A200, H⟩ := H
            replace H : (if t198 = true then ((goscan_at.f a0 (wrap64 (a1 + 3))).bind fun t199 => ((goscan_digit.f t199 8).bind fun t200 => (if t200 = true then (some (wrap64 (a1 + 4))) else (some (-1))))) else (some (-1))) = some r := H
            have A20 := Aside0.mk A200
            clear A200
            by_cases c21 : t198 = true
            ·subst c21
             have H1 : ((goscan_at.f a0 (wrap64 (a1 + 3))).bind fun t199 => ((goscan_digit.f t199 8).bind fun t200 => (if t200 = true then (some (wrap64 (a1 + 4))) else (some (-1))))) = some r := by rw [if_pos rfl] at H; exact H
             clear H
             have H := H1
             clear H1
             replace H := Option.bind_eq_some_iff.mp H
             obtain ⟨t199, A220, H⟩ := H
             replace H : ((goscan_digit.f t199 8).bind fun t200 => (if t200 = true then (some (wrap64 (a1 + 4))) else (some (-1)))) = some r := H
             have A22 := Aside0.mk A220
             clear A220
             replace H := Option.bind_eq_some_iff.mp H
             obtain ⟨t200, A230, H⟩ := H
             replace H : (if t200 = true then (some (wrap64 (a1 + 4))) else (some (-1))) = some r := H
             have A23 := Aside0.mk A230
             clear A230
             by_cases c24 : t200 = true
             ·subst c24
              have H1 : (some (wrap64 (a1 + 4))) = some r := by rw [if_pos rfl] at H; exact H
              clear H
              have H := H1
              clear H1
              obtain rfl := Option.some.inj H
              go_wp2_with (first | ((with_reducible refine gate_callee (f := 90) rfl ?_); refine goesL_ (some 46) rfl rfl Try.func90 (by kernel_rfl) rfl #[.string a0, .int .i64 (wrap64 (a1 + 2))] rfl (by (try simp only [List.map_toArray, List.map_cons, List.map_nil]); first | done | rfl | (simp only [List.length_drop, List.length_take]; rfl)) ?_; (with_reducible refine (goscan_at.calls a0 (wrap64 (a1 + 2)) t197 _ A19.out).mono ?_); rintro e w' ⟨rfl, ⟨nd, rfl⟩⟩; refine ⟨_, rfl, ?_⟩) | ((with_reducible refine gate_callee (f := 93) rfl ?_); refine goesL_ (some 47) rfl rfl Try.func93 (by kernel_rfl) rfl #[.int .u8 t197, .int .i64 8] rfl (by (try simp only [List.map_toArray, List.map_cons, List.map_nil]); first | done | rfl | (simp only [List.length_drop, List.length_take]; rfl)) ?_; (with_reducible refine (goscan_digit.calls t197 8 true _ A20.out).mono ?_); rintro e w' ⟨rfl, ⟨nd, rfl⟩⟩; refine ⟨_, rfl, ?_⟩) | (go_at_call 90; (with_reducible refine (goscan_at.calls a0 (wrap64 (a1 + 3)) t199 _ A22.out).mono ?_); rintro e w' ⟨rfl, ⟨nd, rfl⟩⟩) | (go_at_call 93; (with_reducible refine (goscan_digit.calls t199 8 true _ A23.out).mono ?_); rintro e w' ⟨rfl, ⟨nd, rfl⟩⟩))
              go_ret
              exact ⟨by first | rfl | (simp; done) | (simp only [← hji8] <;> (first | rfl | (simp; done))) | (simp only [← hji8] <;> rw [u32_tmod]) | (simp only [← hji8] <;> simp <;> omega) | (simp [*]; done) | (simp <;> omega) | rw [u32_tmod], by repeat (first | exact Drawn0.refl _ | apply Drawn0.step)⟩
             ·replace c24 := Bool.eq_false_iff.mpr c24
              subst c24
              have H1 : (some (-1)) = some r := by rw [if_neg (show ¬ (false = true) by decide)] at H; exact H
              clear H
              have H := H1
              clear H1
              obtain rfl := Option.some.inj H
              go_wp2_with (first | ((with_reducible refine gate_callee (f := 90) rfl ?_); refine goesL_ (some 46) rfl rfl Try.func90 (by kernel_rfl) rfl #[.string a0, .int .i64 (wrap64 (a1 + 2))] rfl (by (try simp only [List.map_toArray, List.map_cons, List.map_nil]); first | done | rfl | (simp only [List.length_drop, List.length_take]; rfl)) ?_; (with_reducible refine (goscan_at.calls a0 (wrap64 (a1 + 2)) t197 _ A19.out).mono ?_); rintro e w' ⟨rfl, ⟨nd, rfl⟩⟩; refine ⟨_, rfl, ?_⟩) | ((with_reducible refine gate_callee (f := 93) rfl ?_); refine goesL_ (some 47) rfl rfl Try.func93 (by kernel_rfl) rfl #[.int .u8 t197, .int .i64 8] rfl (by (try simp only [List.map_toArray, List.map_cons, List.map_nil]); first | done | rfl | (simp only [List.length_drop, List.length_take]; rfl)) ?_; (with_reducible refine (goscan_digit.calls t197 8 true _ A20.out).mono ?_); rintro e w' ⟨rfl, ⟨nd, rfl⟩⟩; refine ⟨_, rfl, ?_⟩) | (go_at_call 90; (with_reducible refine (goscan_at.calls a0 (wrap64 (a1 + 3)) t199 _ A22.out).mono ?_); rintro e w' ⟨rfl, ⟨nd, rfl⟩⟩) | (go_at_call 93; (with_reducible refine (goscan_digit.calls t199 8 false _ A23.out).mono ?_); rintro e w' ⟨rfl, ⟨nd, rfl⟩⟩))
              go_ret
              exact ⟨by first | rfl | (simp; done) | (simp only [← hji8] <;> (first | rfl | (simp; done))) | (simp only [← hji8] <;> rw [u32_tmod]) | (simp only [← hji8] <;> simp <;> omega) | (simp [*]; done) | (simp <;> omega) | rw [u32_tmod], by repeat (first | exact Drawn0.refl _ | apply Drawn0.step)⟩
            ·replace c21 := Bool.eq_false_iff.mpr c21
             subst c21
             have H1 : (some (-1)) = some r := by rw [if_neg (show ¬ (false = true) by decide)] at H; exact H
             clear H
             have H := H1
             clear H1
             obtain rfl := Option.some.inj H
             go_wp2_with (first | ((with_reducible refine gate_callee (f := 90) rfl ?_); refine goesL_ (some 46) rfl rfl Try.func90 (by kernel_rfl) rfl #[.string a0, .int .i64 (wrap64 (a1 + 2))] rfl (by (try simp only [List.map_toArray, List.map_cons, List.map_nil]); first | done | rfl | (simp only [List.length_drop, List.length_take]; rfl)) ?_; (with_reducible refine (goscan_at.calls a0 (wrap64 (a1 + 2)) t197 _ A19.out).mono ?_); rintro e w' ⟨rfl, ⟨nd, rfl⟩⟩; refine ⟨_, rfl, ?_⟩) | ((with_reducible refine gate_callee (f := 93) rfl ?_); refine goesL_ (some 47) rfl rfl Try.func93 (by kernel_rfl) rfl #[.int .u8 t197, .int .i64 8] rfl (by (try simp only [List.map_toArray, List.map_cons, List.map_nil]); first | done | rfl | (simp only [List.length_drop, List.length_take]; rfl)) ?_; (with_reducible refine (goscan_digit.calls t197 8 false _ A20.out).mono ?_); rintro e w' ⟨rfl, ⟨nd, rfl⟩⟩; refine ⟨_, rfl, ?_⟩))
             go_ret
             exact ⟨by first | rfl | (simp; done) | (simp only [← hji8] <;> (first | rfl | (simp; done))) | (simp only [← hji8] <;> rw [u32_tmod]) | (simp only [← hji8] <;> simp <;> omega) | (simp [*]; done) | (simp <;> omega) | rw [u32_tmod], by repeat (first | exact Drawn0.refl _ | apply Drawn0.step)⟩
           ·replace c18 := Bool.eq_false_iff.mpr c18
            subst c18
            have H1 : (if (bt a0 (ji8)) = 120 then ((goscan_digits16.f kj15 a0 (wrap64 (a1 + 2)) 2).bind fun t201 => (if t201 ≥ 0 then (some (wrap64 (a1 + 4))) else (some (-1)))) else (if (bt a0 (ji8)) = 117 then (goscan_escapeForm.j3 kj15 a0 a1 (bt a0 (ji8)) true) else (goscan_escapeForm.j3 kj15 a0 a1 (bt a0 (ji8)) ((bt a0 (ji8)) == 85)))) = some r := by rw [if_neg (show ¬ (false = true) by decide)] at H; exact H
            clear H
            have H := H1
            clear H1
            by_cases c25 : (bt a0 (ji8)) = 120
            ·rw [if_pos c25] at H
             have c25b0 : ((bt a0 (ji8)) == 120) = true := beq_iff_eq.mpr c25
             have c25b1 : ((bt a0 (ji8)) != 120) = false := bne_eq_false_iff_eq.mpr c25
             clear c25
             replace H := Option.bind_eq_some_iff.mp H
             obtain ⟨t201, A260, H⟩ := H
             replace H : (if t201 ≥ 0 then (some (wrap64 (a1 + 4))) else (some (-1))) = some r := H
             have A26 := Aside0.mk A260
             clear A260
             by_cases c27 : t201 ≥ 0
             ·rw [if_pos c27] at H
              have c27b0 : decide (0 ≤ t201) = true := decide_eq_true c27
              clear c27
              obtain rfl := Option.some.inj H
              go_wp2_with (first | ((with_reducible refine gate_callee (f := 109) rfl ?_); refine goesL_ (some 63) rfl rfl Try.func109 (by kernel_rfl) rfl #[.string a0, .int .i64 (wrap64 (a1 + 2)), .int .i64 2] rfl (by (try simp only [List.map_toArray, List.map_cons, List.map_nil]); first | done | rfl | (simp only [List.length_drop, List.length_take]; rfl)) ?_; (with_reducible refine (goscan_digits16.calls kj15 a0 (wrap64 (a1 + 2)) 2 t201 _ A26.out).mono ?_); rintro e w' ⟨rfl, ⟨nd, rfl⟩⟩; refine ⟨_, rfl, ?_⟩))
              go_ret
              exact ⟨by first | rfl | (simp; done) | (simp only [← hji8] <;> (first | rfl | (simp; done))) | (simp only [← hji8] <;> rw [u32_tmod]) | (simp only [← hji8] <;> simp <;> omega) | (simp [*]; done) | (simp <;> omega) | rw [u32_tmod], by repeat (first | exact Drawn0.refl _ | apply Drawn0.step)⟩
             ·rw [if_neg c27] at H
              have c27b0 : decide (0 ≤ t201) = false := decide_eq_false c27
              clear c27
              obtain rfl := Option.some.inj H
              go_wp2_with (first | ((with_reducible refine gate_callee (f := 109) rfl ?_); refine goesL_ (some 63) rfl rfl Try.func109 (by kernel_rfl) rfl #[.string a0, .int .i64 (wrap64 (a1 + 2)), .int .i64 2] rfl (by (try simp only [List.map_toArray, List.map_cons, List.map_nil]); first | done | rfl | (simp only [List.length_drop, List.length_take]; rfl)) ?_; (with_reducible refine (goscan_digits16.calls kj15 a0 (wrap64 (a1 + 2)) 2 t201 _ A26.out).mono ?_); rintro e w' ⟨rfl, ⟨nd, rfl⟩⟩; refine ⟨_, rfl, ?_⟩))
              go_ret
              exact ⟨by first | rfl | (simp; done) | (simp only [← hji8] <;> (first | rfl | (simp; done))) | (simp only [← hji8] <;> rw [u32_tmod]) | (simp only [← hji8] <;> simp <;> omega) | (simp [*]; done) | (simp <;> omega) | rw [u32_tmod], by repeat (first | exact Drawn0.refl _ | apply Drawn0.step)⟩
            ·rw [if_neg c25] at H
             have c25b0 : ((bt a0 (ji8)) == 120) = false := beq_eq_false_iff_ne.mpr c25
             have c25b1 : ((bt a0 (ji8)) != 120) = true := bne_iff_ne.mpr c25
             have HC28 := Aside0.mk H
             clear H
             go_upto_region 12 with (fail)
             go_cut [67] (fun v67 wc => ∃ (kq : Nat) (x67_27 : Bool), v67 = .bool x67_27 ∧ Aside0 (goscan_escapeForm.j3 kq a0 a1 (bt a0 (ji8)) x67_27 = some r) ∧ Aside0 (kq ≤ kj15) ∧ Drawn0 w wc)
             case first =>
              have H := HC28.out
              clear HC28
              by_cases c29 : (bt a0 (ji8)) = 117
              ·rw [if_pos c29] at H
               have c29b0 : ((bt a0 (ji8)) == 117) = true := beq_iff_eq.mpr c29
               have c29b1 : ((bt a0 (ji8)) != 117) = false := bne_eq_false_iff_eq.mpr c29
               clear c29
               (first | rw [c29b0] | (simp only [i64_w, i32_w]; rw [c29b0]) | skip)
               have H' := Aside0.mk H
               clear H
               go_wp2
               go_meet
               case rel => exact ⟨_, (true), (by first | rfl | (simp; done) | (simp [*]; done) | (simp <;> omega) | rw [u32_tmod]), H', ⟨by have := HJ3.out; have := HJ11.out; have := HJ15.out; first | omega | exact Nat.le_refl _⟩, by repeat (first | exact Drawn0.refl _ | apply Drawn0.step)⟩
              ·rw [if_neg c29] at H
               have c29b0 : ((bt a0 (ji8)) == 117) = false := beq_eq_false_iff_ne.mpr c29
               have c29b1 : ((bt a0 (ji8)) != 117) = true := bne_iff_ne.mpr c29
               (first | rw [c29b0] | (simp only [i64_w, i32_w]; rw [c29b0]) | skip)
               have H' := Aside0.mk H
               clear H
               go_wp2
               go_meet
               case rel => exact ⟨_, (((bt a0 (ji8)) == 85)), (by first | rfl | (simp; done) | (simp only [← hji8] <;> (first | rfl | (simp; done))) | (simp only [← hji8] <;> rw [u32_tmod]) | (simp only [← hji8] <;> simp <;> omega) | (simp [*]; done) | (simp <;> omega) | rw [u32_tmod]), H', ⟨by have := HJ3.out; have := HJ11.out; have := HJ15.out; first | omega | exact Nat.le_refl _⟩, by repeat (first | exact Drawn0.refl _ | apply Drawn0.step)⟩
             case rest =>
              clear HC28
              try clear c1
              try clear p1
              try clear q1
              try clear hx1
              try clear c2
              try clear p2
              try clear c3
              try clear c6
              try clear c6b0
              try clear c6b1
              try clear p6
              try clear c7
              try clear c9
              try clear c9b0
              try clear c10
              try clear c10b0
              try clear c11
              try clear p11
              try clear q11
              try clear hx11
              try clear c13
              try clear c13b0
              try clear c13b1
              try clear c15
              try clear c17
              try clear c17b0
              try clear c18
              try clear c21
              try clear c24
              try clear c25
              try clear c25b0
              try clear c25b1
              try clear c27
              try clear c27b0
              try clear c29
              try clear c29b0
              try clear c29b1
              try clear p1
              try clear p11
              try clear p2
              try clear p6
              try clear q1
              try clear q11
              obtain ⟨kq, x67_27, rfl, HA, HJ27, ⟨mc27, rfl⟩⟩ := hcut
              cases kq with
              | zero => exact absurd HA.out (by simp [goscan_escapeForm.j3])
              | succ kj27 =>
               have H := HA.out
               clear HA
               simp only [goscan_escapeForm.j3] at H
               by_cases c30 : x67_27 = true
               ·subst c30
                have H1 : (if (bt a0 (ji8)) = 85 then ((goscan_digits16.f kj27 a0 (wrap64 (a1 + 2)) 8).bind fun t202 => (if t202 ≥ 0 then (if t202 ≤ 1114111 then (if t202 < 55296 then (some (wrap64 ((wrap64 (a1 + 2)) + 8))) else (if t202 > 57343 then (some (wrap64 ((wrap64 (a1 + 2)) + 8))) else (some (-1)))) else (some (-1))) else (some (-1)))) else ((goscan_digits16.f kj27 a0 (wrap64 (a1 + 2)) 4).bind fun t203 => (if t203 ≥ 0 then (if t203 ≤ 1114111 then (if t203 < 55296 then (some (wrap64 ((wrap64 (a1 + 2)) + 4))) else (if t203 > 57343 then (some (wrap64 ((wrap64 (a1 + 2)) + 4))) else (some (-1)))) else (some (-1))) else (some (-1))))) = some r := by rw [if_pos rfl] at H; exact H
                clear H
                have H := H1
                clear H1
                by_cases c31 : (bt a0 (ji8)) = 85
                ·rw [if_pos c31] at H
                 have c31b0 : ((bt a0 (ji8)) == 85) = true := beq_iff_eq.mpr c31
                 have c31b1 : ((bt a0 (ji8)) != 85) = false := bne_eq_false_iff_eq.mpr c31
                 clear c31
                 replace H := Option.bind_eq_some_iff.mp H
                 obtain ⟨t202, A320, H⟩ := H
                 replace H : (if t202 ≥ 0 then (if t202 ≤ 1114111 then (if t202 < 55296 then (some (wrap64 ((wrap64 (a1 + 2)) + 8))) else (if t202 > 57343 then (some (wrap64 ((wrap64 (a1 + 2)) + 8))) else (some (-1)))) else (some (-1))) else (some (-1))) = some r := H
                 have A32 := Aside0.mk A320
                 clear A320
                 by_cases c33 : t202 ≥ 0
                 ·rw [if_pos c33] at H
                  have c33b0 : decide (0 ≤ t202) = true := decide_eq_true c33
                  clear c33
                  by_cases c34 : t202 ≤ 1114111
                  ·rw [if_pos c34] at H
                   have c34b0 : decide (t202 ≤ 1114111) = true := decide_eq_true c34
                   clear c34
                   by_cases c35 : t202 < 55296
                   ·rw [if_pos c35] at H
                    have c35b0 : decide (t202 < 55296) = true := decide_eq_true c35
                    clear c35
                    obtain rfl := Option.some.inj H
                    go_wp2_with (first | ((with_reducible refine gate_callee (f := 109) rfl ?_); refine goesL_ (some 80) rfl rfl Try.func109 (by kernel_rfl) rfl #[.string a0, .int .i64 (wrap64 (a1 + 2)), .int .i64 8] rfl (by (try simp only [List.map_toArray, List.map_cons, List.map_nil]); first | done | rfl | (simp only [List.length_drop, List.length_take]; rfl)) ?_; (with_reducible refine (goscan_digits16.calls kj27 a0 (wrap64 (a1 + 2)) 8 t202 _ A32.out).mono ?_); rintro e w' ⟨rfl, ⟨nd, rfl⟩⟩; refine ⟨_, rfl, ?_⟩))
                    go_ret
                    exact ⟨by first | rfl | (simp; done) | (simp only [← hji8] <;> (first | rfl | (simp; done))) | (simp only [← hji8] <;> rw [u32_tmod]) | (simp only [← hji8] <;> simp <;> omega) | (simp [*]; done) | (simp <;> omega) | rw [u32_tmod], by repeat (first | exact Drawn0.refl _ | apply Drawn0.step)⟩
                   ·rw [if_neg c35] at H
                    have c35b0 : decide (t202 < 55296) = false := decide_eq_false c35
                    clear c35
                    by_cases c36 : t202 > 57343
                    ·rw [if_pos c36] at H
                     have c36b0 : decide (57343 < t202) = true := decide_eq_true c36
                     clear c36
                     obtain rfl := Option.some.inj H
                     go_wp2_with (first | ((with_reducible refine gate_callee (f := 109) rfl ?_); refine goesL_ (some 80) rfl rfl Try.func109 (by kernel_rfl) rfl #[.string a0, .int .i64 (wrap64 (a1 + 2)), .int .i64 8] rfl (by (try simp only [List.map_toArray, List.map_cons, List.map_nil]); first | done | rfl | (simp only [List.length_drop, List.length_take]; rfl)) ?_; (with_reducible refine (goscan_digits16.calls kj27 a0 (wrap64 (a1 + 2)) 8 t202 _ A32.out).mono ?_); rintro e w' ⟨rfl, ⟨nd, rfl⟩⟩; refine ⟨_, rfl, ?_⟩))
                     go_ret
                     exact ⟨by first | rfl | (simp; done) | (simp only [← hji8] <;> (first | rfl | (simp; done))) | (simp only [← hji8] <;> rw [u32_tmod]) | (simp only [← hji8] <;> simp <;> omega) | (simp [*]; done) | (simp <;> omega) | rw [u32_tmod], by repeat (first | exact Drawn0.refl _ | apply Drawn0.step)⟩
                    ·rw [if_neg c36] at H
                     have c36b0 : decide (57343 < t202) = false := decide_eq_false c36
                     clear c36
                     obtain rfl := Option.some.inj H
                     go_wp2_with (first | ((with_reducible refine gate_callee (f := 109) rfl ?_); refine goesL_ (some 80) rfl rfl Try.func109 (by kernel_rfl) rfl #[.string a0, .int .i64 (wrap64 (a1 + 2)), .int .i64 8] rfl (by (try simp only [List.map_toArray, List.map_cons, List.map_nil]); first | done | rfl | (simp only [List.length_drop, List.length_take]; rfl)) ?_; (with_reducible refine (goscan_digits16.calls kj27 a0 (wrap64 (a1 + 2)) 8 t202 _ A32.out).mono ?_); rintro e w' ⟨rfl, ⟨nd, rfl⟩⟩; refine ⟨_, rfl, ?_⟩))
                     go_ret
                     exact ⟨by first | rfl | (simp; done) | (simp only [← hji8] <;> (first | rfl | (simp; done))) | (simp only [← hji8] <;> rw [u32_tmod]) | (simp only [← hji8] <;> simp <;> omega) | (simp [*]; done) | (simp <;> omega) | rw [u32_tmod], by repeat (first | exact Drawn0.refl _ | apply Drawn0.step)⟩
                  ·rw [if_neg c34] at H
                   have c34b0 : decide (t202 ≤ 1114111) = false := decide_eq_false c34
                   clear c34
                   obtain rfl := Option.some.inj H
                   go_wp2_with (first | ((with_reducible refine gate_callee (f := 109) rfl ?_); refine goesL_ (some 80) rfl rfl Try.func109 (by kernel_rfl) rfl #[.string a0, .int .i64 (wrap64 (a1 + 2)), .int .i64 8] rfl (by (try simp only [List.map_toArray, List.map_cons, List.map_nil]); first | done | rfl | (simp only [List.length_drop, List.length_take]; rfl)) ?_; (with_reducible refine (goscan_digits16.calls kj27 a0 (wrap64 (a1 + 2)) 8 t202 _ A32.out).mono ?_); rintro e w' ⟨rfl, ⟨nd, rfl⟩⟩; refine ⟨_, rfl, ?_⟩))
                   go_ret
                   exact ⟨by first | rfl | (simp; done) | (simp only [← hji8] <;> (first | rfl | (simp; done))) | (simp only [← hji8] <;> rw [u32_tmod]) | (simp only [← hji8] <;> simp <;> omega) | (simp [*]; done) | (simp <;> omega) | rw [u32_tmod], by repeat (first | exact Drawn0.refl _ | apply Drawn0.step)⟩
                 ·rw [if_neg c33] at H
                  have c33b0 : decide (0 ≤ t202) = false := decide_eq_false c33
                  clear c33
                  obtain rfl := Option.some.inj H
                  go_wp2_with (first | ((with_reducible refine gate_callee (f := 109) rfl ?_); refine goesL_ (some 80) rfl rfl Try.func109 (by kernel_rfl) rfl #[.string a0, .int .i64 (wrap64 (a1 + 2)), .int .i64 8] rfl (by (try simp only [List.map_toArray, List.map_cons, List.map_nil]); first | done | rfl | (simp only [List.length_drop, List.length_take]; rfl)) ?_; (with_reducible refine (goscan_digits16.calls kj27 a0 (wrap64 (a1 + 2)) 8 t202 _ A32.out).mono ?_); rintro e w' ⟨rfl, ⟨nd, rfl⟩⟩; refine ⟨_, rfl, ?_⟩))
                  go_ret
                  exact ⟨by first | rfl | (simp; done) | (simp only [← hji8] <;> (first | rfl | (simp; done))) | (simp only [← hji8] <;> rw [u32_tmod]) | (simp only [← hji8] <;> simp <;> omega) | (simp [*]; done) | (simp <;> omega) | rw [u32_tmod], by repeat (first | exact Drawn0.refl _ | apply Drawn0.step)⟩
                ·rw [if_neg c31] at H
                 have c31b0 : ((bt a0 (ji8)) == 85) = false := beq_eq_false_iff_ne.mpr c31
                 have c31b1 : ((bt a0 (ji8)) != 85) = true := bne_iff_ne.mpr c31
                 replace H := Option.bind_eq_some_iff.mp H
                 obtain ⟨t203, A370, H⟩ := H
                 replace H : (if t203 ≥ 0 then (if t203 ≤ 1114111 then (if t203 < 55296 then (some (wrap64 ((wrap64 (a1 + 2)) + 4))) else (if t203 > 57343 then (some (wrap64 ((wrap64 (a1 + 2)) + 4))) else (some (-1)))) else (some (-1))) else (some (-1))) = some r := H
                 have A37 := Aside0.mk A370
                 clear A370
                 by_cases c38 : t203 ≥ 0
                 ·rw [if_pos c38] at H
                  have c38b0 : decide (0 ≤ t203) = true := decide_eq_true c38
                  clear c38
                  by_cases c39 : t203 ≤ 1114111
                  ·rw [if_pos c39] at H
                   have c39b0 : decide (t203 ≤ 1114111) = true := decide_eq_true c39
                   clear c39
                   by_cases c40 : t203 < 55296
                   ·rw [if_pos c40] at H
                    have c40b0 : decide (t203 < 55296) = true := decide_eq_true c40
                    clear c40
                    obtain rfl := Option.some.inj H
                    go_wp2_with (first | ((with_reducible refine gate_callee (f := 109) rfl ?_); refine goesL_ (some 80) rfl rfl Try.func109 (by kernel_rfl) rfl #[.string a0, .int .i64 (wrap64 (a1 + 2)), .int .i64 4] rfl (by (try simp only [List.map_toArray, List.map_cons, List.map_nil]); first | done | rfl | (simp only [List.length_drop, List.length_take]; rfl)) ?_; (with_reducible refine (goscan_digits16.calls kj27 a0 (wrap64 (a1 + 2)) 4 t203 _ A37.out).mono ?_); rintro e w' ⟨rfl, ⟨nd, rfl⟩⟩; refine ⟨_, rfl, ?_⟩))
                    go_ret
                    exact ⟨by first | rfl | (simp; done) | (simp only [← hji8] <;> (first | rfl | (simp; done))) | (simp only [← hji8] <;> rw [u32_tmod]) | (simp only [← hji8] <;> simp <;> omega) | (simp [*]; done) | (simp <;> omega) | rw [u32_tmod], by repeat (first | exact Drawn0.refl _ | apply Drawn0.step)⟩
                   ·rw [if_neg c40] at H
                    have c40b0 : decide (t203 < 55296) = false := decide_eq_false c40
                    clear c40
                    by_cases c41 : t203 > 57343
                    ·rw [if_pos c41] at H
                     have c41b0 : decide (57343 < t203) = true := decide_eq_true c41
                     clear c41
                     obtain rfl := Option.some.inj H
                     go_wp2_with (first | ((with_reducible refine gate_callee (f := 109) rfl ?_); refine goesL_ (some 80) rfl rfl Try.func109 (by kernel_rfl) rfl #[.string a0, .int .i64 (wrap64 (a1 + 2)), .int .i64 4] rfl (by (try simp only [List.map_toArray, List.map_cons, List.map_nil]); first | done | rfl | (simp only [List.length_drop, List.length_take]; rfl)) ?_; (with_reducible refine (goscan_digits16.calls kj27 a0 (wrap64 (a1 + 2)) 4 t203 _ A37.out).mono ?_); rintro e w' ⟨rfl, ⟨nd, rfl⟩⟩; refine ⟨_, rfl, ?_⟩))
                     go_ret
                     exact ⟨by first | rfl | (simp; done) | (simp only [← hji8] <;> (first | rfl | (simp; done))) | (simp only [← hji8] <;> rw [u32_tmod]) | (simp only [← hji8] <;> simp <;> omega) | (simp [*]; done) | (simp <;> omega) | rw [u32_tmod], by repeat (first | exact Drawn0.refl _ | apply Drawn0.step)⟩
                    ·rw [if_neg c41] at H
                     have c41b0 : decide (57343 < t203) = false := decide_eq_false c41
                     clear c41
                     obtain rfl := Option.some.inj H
                     go_wp2_with (first | ((with_reducible refine gate_callee (f := 109) rfl ?_); refine goesL_ (some 80) rfl rfl Try.func109 (by kernel_rfl) rfl #[.string a0, .int .i64 (wrap64 (a1 + 2)), .int .i64 4] rfl (by (try simp only [List.map_toArray, List.map_cons, List.map_nil]); first | done | rfl | (simp only [List.length_drop, List.length_take]; rfl)) ?_; (with_reducible refine (goscan_digits16.calls kj27 a0 (wrap64 (a1 + 2)) 4 t203 _ A37.out).mono ?_); rintro e w' ⟨rfl, ⟨nd, rfl⟩⟩; refine ⟨_, rfl, ?_⟩))
                     go_ret
                     exact ⟨by first | rfl | (simp; done) | (simp only [← hji8] <;> (first | rfl | (simp; done))) | (simp only [← hji8] <;> rw [u32_tmod]) | (simp only [← hji8] <;> simp <;> omega) | (simp [*]; done) | (simp <;> omega) | rw [u32_tmod], by repeat (first | exact Drawn0.refl _ | apply Drawn0.step)⟩
                  ·rw [if_neg c39] at H
                   have c39b0 : decide (t203 ≤ 1114111) = false := decide_eq_false c39
                   clear c39
                   obtain rfl := Option.some.inj H
                   go_wp2_with (first | ((with_reducible refine gate_callee (f := 109) rfl ?_); refine goesL_ (some 80) rfl rfl Try.func109 (by kernel_rfl) rfl #[.string a0, .int .i64 (wrap64 (a1 + 2)), .int .i64 4] rfl (by (try simp only [List.map_toArray, List.map_cons, List.map_nil]); first | done | rfl | (simp only [List.length_drop, List.length_take]; rfl)) ?_; (with_reducible refine (goscan_digits16.calls kj27 a0 (wrap64 (a1 + 2)) 4 t203 _ A37.out).mono ?_); rintro e w' ⟨rfl, ⟨nd, rfl⟩⟩; refine ⟨_, rfl, ?_⟩))
                   go_ret
                   exact ⟨by first | rfl | (simp; done) | (simp only [← hji8] <;> (first | rfl | (simp; done))) | (simp only [← hji8] <;> rw [u32_tmod]) | (simp only [← hji8] <;> simp <;> omega) | (simp [*]; done) | (simp <;> omega) | rw [u32_tmod], by repeat (first | exact Drawn0.refl _ | apply Drawn0.step)⟩
                 ·rw [if_neg c38] at H
                  have c38b0 : decide (0 ≤ t203) = false := decide_eq_false c38
                  clear c38
                  obtain rfl := Option.some.inj H
                  go_wp2_with (first | ((with_reducible refine gate_callee (f := 109) rfl ?_); refine goesL_ (some 80) rfl rfl Try.func109 (by kernel_rfl) rfl #[.string a0, .int .i64 (wrap64 (a1 + 2)), .int .i64 4] rfl (by (try simp only [List.map_toArray, List.map_cons, List.map_nil]); first | done | rfl | (simp only [List.length_drop, List.length_take]; rfl)) ?_; (with_reducible refine (goscan_digits16.calls kj27 a0 (wrap64 (a1 + 2)) 4 t203 _ A37.out).mono ?_); rintro e w' ⟨rfl, ⟨nd, rfl⟩⟩; refine ⟨_, rfl, ?_⟩))
                  go_ret
                  exact ⟨by first | rfl | (simp; done) | (simp only [← hji8] <;> (first | rfl | (simp; done))) | (simp only [← hji8] <;> rw [u32_tmod]) | (simp only [← hji8] <;> simp <;> omega) | (simp [*]; done) | (simp <;> omega) | rw [u32_tmod], by repeat (first | exact Drawn0.refl _ | apply Drawn0.step)⟩
               ·replace c30 := Bool.eq_false_iff.mpr c30
                subst c30
                have H1 : (some (-1)) = some r := by rw [if_neg (show ¬ (false = true) by decide)] at H; exact H
                clear H
                have H := H1
                clear H1
                obtain rfl := Option.some.inj H
                go_wp2
                go_ret
                exact ⟨by first | rfl | (simp; done) | (simp only [← hji8] <;> (first | rfl | (simp; done))) | (simp only [← hji8] <;> rw [u32_tmod]) | (simp only [← hji8] <;> simp <;> omega) | (simp [*]; done) | (simp <;> omega) | rw [u32_tmod], by repeat (first | exact Drawn0.refl _ | apply Drawn0.step)⟩
     ·rw [if_neg c10] at H
      exact absurd H (by simp)
    ·rw [if_neg c9] at H
     exact absurd H (by simp)
def goscan_oneForm.f (k : Nat) (a0 : ByteArray) (a1 : Int) (a2 : Int) : Option (Int) := (goscan_at.f a0 a1).bind fun t204 => (if t204 = 92 then ((goscan_escapeForm.f k a0 a1 a2).bind fun t205 => (some t205)) else ((goscan_plainRune.f a0 a1).bind fun bt206 => (if bt206.2 = 0 then (some (-1)) else (if bt206.1 = 10 then (some (-1)) else (if bt206.1 = (wrap32 (a2)) then (some (-1)) else (some (wrap64 (a1 + bt206.2))))))))
theorem goscan_oneForm.mono : ∀ a0 a1 a2 k, LeO (goscan_oneForm.f k a0 a1 a2) (goscan_oneForm.f (k + 1) a0 a1 a2) := by
 intro a0 a1 a2 k
 unfold goscan_oneForm.f
 repeat' first
   | (with_reducible exact goscan_escapeForm.mono _ _ _ _)
   | (with_reducible exact LeO.refl _)
   | (with_reducible exact LeO.none _)
   | (with_reducible refine LeO.ite ?_ ?_)
   | (with_reducible refine LeO.bind ?_ (fun _ => ?_))
   | exact goscan_escapeForm.mono _ _ _ _
   | exact LeO.none _
   | refine LeO.ite ?_ ?_
   | refine LeO.bind ?_ (fun _ => ?_)
set_option maxHeartbeats 8000000 in
set_option maxRecDepth 100000 in
theorem goscan_oneForm.calls (k : Nat) (a0 : ByteArray) (a1 : Int) (a2 : Int) (r : Int) (w : World) (h : goscan_oneForm.f k a0 a1 a2 = some r) :
  Calls Try.prog 99 #[.string a0, .int .i64 a1, .int .u8 a2] w fun e w' => e = .returned (.int .i64 r) ∧ Below w.heap.size w w' := by
 have HB := Aside0.mk (Below.refl w.heap.size w)
 have H : ((goscan_at.f a0 a1).bind fun t204 => (if t204 = 92 then ((goscan_escapeForm.f k a0 a1 a2).bind fun t205 => (some t205)) else ((goscan_plainRune.f a0 a1).bind fun bt206 => (if bt206.2 = 0 then (some (-1)) else (if bt206.1 = 10 then (some (-1)) else (if bt206.1 = (wrap32 (a2)) then (some (-1)) else (some (wrap64 (a1 + bt206.2))))))))) = some r := h
 clear h
 replace H := Option.bind_eq_some_iff.mp H
 obtain ⟨t204, A40, H⟩ := H
 replace H : (if t204 = 92 then ((goscan_escapeForm.f k a0 a1 a2).bind fun t205 => (some t205)) else ((goscan_plainRune.f a0 a1).bind fun bt206 => (if bt206.2 = 0 then (some (-1)) else (if bt206.1 = 10 then (some (-1)) else (if bt206.1 = (wrap32 (a2)) then (some (-1)) else (some (wrap64 (a1 + bt206.2)))))))) = some r := H
 have A4 := Aside0.mk A40
 clear A40
 by_cases c5 : t204 = 92
 ·rw [if_pos c5] at H
  have c5b0 : (t204 == 92) = true := beq_iff_eq.mpr c5
  have c5b1 : (t204 != 92) = false := bne_eq_false_iff_eq.mpr c5
  clear c5
  replace H := Option.bind_eq_some_iff.mp H
  obtain ⟨t205, A60, H⟩ := H
  replace H : (some t205) = some r := H
  have A6 := Aside0.mk A60
  clear A60
  obtain rfl := Option.some.inj H
  go_enter Try.func99, Try.ntmps99
  go_wp2_with (first | ((with_reducible refine gate_callee (f := 90) rfl ?_); refine goesL_ (some 11) rfl rfl Try.func90 (by kernel_rfl) rfl #[.string a0, .int .i64 a1] rfl (by (try simp only [List.map_toArray, List.map_cons, List.map_nil]); first | done | rfl | (simp only [List.length_drop, List.length_take]; rfl)) ?_; (with_reducible refine (goscan_at.calls a0 a1 t204 _ A4.out).mono ?_); rintro e w' ⟨rfl, ⟨nd, rfl⟩⟩; refine ⟨_, rfl, ?_⟩) | ((with_reducible refine gate_callee (f := 105) rfl ?_); refine goesL_ (some 16) rfl rfl Try.func105 (by kernel_rfl) rfl #[.string a0, .int .i64 a1, .int .u8 a2] rfl (by (try simp only [List.map_toArray, List.map_cons, List.map_nil]); first | done | rfl | (simp only [List.length_drop, List.length_take]; rfl)) ?_; (with_reducible refine (goscan_escapeForm.calls k a0 a1 a2 t205 _ A6.out).mono ?_); rintro e w' ⟨rfl, ⟨nd, rfl⟩⟩; refine ⟨_, rfl, ?_⟩))
  go_ret
  exact ⟨by first | rfl | (simp [errW_none, errW_some] <;> rfl) | (simp [*, errW_none, errW_some] <;> rfl), by repeat (first | (with_reducible first | exact HB.out | apply below_alloc | apply pw_below_drewN | apply below_drew1) | exact HB.out)⟩
 ·rw [if_neg c5] at H
  have c5b0 : (t204 == 92) = false := beq_eq_false_iff_ne.mpr c5
  have c5b1 : (t204 != 92) = true := bne_iff_ne.mpr c5
  replace H := Option.bind_eq_some_iff.mp H
  obtain ⟨⟨t206, t207⟩, A70, H⟩ := H
  replace H : (if t207 = 0 then (some (-1)) else (if t206 = 10 then (some (-1)) else (if t206 = (wrap32 (a2)) then (some (-1)) else (some (wrap64 (a1 + t207)))))) = some r := H
  have A7 := Aside0.mk A70
  clear A70
  by_cases c8 : t207 = 0
  ·rw [if_pos c8] at H
   have c8b0 : (t207 == 0) = true := beq_iff_eq.mpr c8
   have c8b1 : (t207 != 0) = false := bne_eq_false_iff_eq.mpr c8
   clear c8
   obtain rfl := Option.some.inj H
   go_enter Try.func99, Try.ntmps99
   go_wp2_with (first | ((with_reducible refine gate_callee (f := 90) rfl ?_); refine goesL_ (some 11) rfl rfl Try.func90 (by kernel_rfl) rfl #[.string a0, .int .i64 a1] rfl (by (try simp only [List.map_toArray, List.map_cons, List.map_nil]); first | done | rfl | (simp only [List.length_drop, List.length_take]; rfl)) ?_; (with_reducible refine (goscan_at.calls a0 a1 t204 _ A4.out).mono ?_); rintro e w' ⟨rfl, ⟨nd, rfl⟩⟩; refine ⟨_, rfl, ?_⟩) | ((with_reducible refine gate_callee (f := 91) rfl ?_); refine goesL_ (some 20) rfl rfl Try.func91 (by kernel_rfl) rfl #[.string a0, .int .i64 a1] rfl (by (try simp only [List.map_toArray, List.map_cons, List.map_nil]); first | done | rfl | (simp only [List.length_drop, List.length_take]; rfl)) ?_; (with_reducible refine (goscan_plainRune.calls a0 a1 t206 t207 _ A7.out).mono ?_); rintro e w9 ⟨rfl, hb⟩; refine ⟨_, rfl, ?_⟩; have n0_ := Aside0.mk (below_step (by repeat (first | (with_reducible first | exact HB.out | apply below_alloc | apply pw_below_drewN | apply below_drew1) | exact HB.out)) hb); clear HB; have HB := n0_; clear n0_; (try clear hb); (try clear hb2); (try clear hk); (try clear hi)))
   go_ret
   exact ⟨by first | rfl | (simp [errW_none, errW_some] <;> rfl) | (simp [*, errW_none, errW_some] <;> rfl), by repeat (first | (with_reducible first | exact HB.out | apply below_alloc | apply pw_below_drewN | apply below_drew1) | exact HB.out)⟩
  ·rw [if_neg c8] at H
   have c8b0 : (t207 == 0) = false := beq_eq_false_iff_ne.mpr c8
   have c8b1 : (t207 != 0) = true := bne_iff_ne.mpr c8
   by_cases c10 : t206 = 10
   ·rw [if_pos c10] at H
    have c10b0 : (t206 == 10) = true := beq_iff_eq.mpr c10
    have c10b1 : (t206 != 10) = false := bne_eq_false_iff_eq.mpr c10
    clear c10
    obtain rfl := Option.some.inj H
    go_enter Try.func99, Try.ntmps99
    go_wp2_with (first | ((with_reducible refine gate_callee (f := 90) rfl ?_); refine goesL_ (some 11) rfl rfl Try.func90 (by kernel_rfl) rfl #[.string a0, .int .i64 a1] rfl (by (try simp only [List.map_toArray, List.map_cons, List.map_nil]); first | done | rfl | (simp only [List.length_drop, List.length_take]; rfl)) ?_; (with_reducible refine (goscan_at.calls a0 a1 t204 _ A4.out).mono ?_); rintro e w' ⟨rfl, ⟨nd, rfl⟩⟩; refine ⟨_, rfl, ?_⟩) | ((with_reducible refine gate_callee (f := 91) rfl ?_); refine goesL_ (some 20) rfl rfl Try.func91 (by kernel_rfl) rfl #[.string a0, .int .i64 a1] rfl (by (try simp only [List.map_toArray, List.map_cons, List.map_nil]); first | done | rfl | (simp only [List.length_drop, List.length_take]; rfl)) ?_; (with_reducible refine (goscan_plainRune.calls a0 a1 t206 t207 _ A7.out).mono ?_); rintro e w11 ⟨rfl, hb⟩; refine ⟨_, rfl, ?_⟩; have n0_ := Aside0.mk (below_step (by repeat (first | (with_reducible first | exact HB.out | apply below_alloc | apply pw_below_drewN | apply below_drew1) | exact HB.out)) hb); clear HB; have HB := n0_; clear n0_; (try clear hb); (try clear hb2); (try clear hk); (try clear hi)))
    go_ret
    exact ⟨by first | rfl | (simp [errW_none, errW_some] <;> rfl) | (simp [*, errW_none, errW_some] <;> rfl), by repeat (first | (with_reducible first | exact HB.out | apply below_alloc | apply pw_below_drewN | apply below_drew1) | exact HB.out)⟩
   ·rw [if_neg c10] at H
    have c10b0 : (t206 == 10) = false := beq_eq_false_iff_ne.mpr c10
    have c10b1 : (t206 != 10) = true := bne_iff_ne.mpr c10
    by_cases c12 : t206 = (wrap32 (a2))
    ·rw [if_pos c12] at H
     have c12b0 : (t206 == (wrap32 (a2))) = true := beq_iff_eq.mpr c12
     have c12b1 : (t206 != (wrap32 (a2))) = false := bne_eq_false_iff_eq.mpr c12
     clear c12
     obtain rfl := Option.some.inj H
     go_enter Try.func99, Try.ntmps99
     go_wp2_with (first | ((with_reducible refine gate_callee (f := 90) rfl ?_); refine goesL_ (some 11) rfl rfl Try.func90 (by kernel_rfl) rfl #[.string a0, .int .i64 a1] rfl (by (try simp only [List.map_toArray, List.map_cons, List.map_nil]); first | done | rfl | (simp only [List.length_drop, List.length_take]; rfl)) ?_; (with_reducible refine (goscan_at.calls a0 a1 t204 _ A4.out).mono ?_); rintro e w' ⟨rfl, ⟨nd, rfl⟩⟩; refine ⟨_, rfl, ?_⟩) | ((with_reducible refine gate_callee (f := 91) rfl ?_); refine goesL_ (some 20) rfl rfl Try.func91 (by kernel_rfl) rfl #[.string a0, .int .i64 a1] rfl (by (try simp only [List.map_toArray, List.map_cons, List.map_nil]); first | done | rfl | (simp only [List.length_drop, List.length_take]; rfl)) ?_; (with_reducible refine (goscan_plainRune.calls a0 a1 t206 t207 _ A7.out).mono ?_); rintro e w13 ⟨rfl, hb⟩; refine ⟨_, rfl, ?_⟩; have n0_ := Aside0.mk (below_step (by repeat (first | (with_reducible first | exact HB.out | apply below_alloc | apply pw_below_drewN | apply below_drew1) | exact HB.out)) hb); clear HB; have HB := n0_; clear n0_; (try clear hb); (try clear hb2); (try clear hk); (try clear hi)))
     go_ret
     exact ⟨by first | rfl | (simp [errW_none, errW_some] <;> rfl) | (simp [*, errW_none, errW_some] <;> rfl), by repeat (first | (with_reducible first | exact HB.out | apply below_alloc | apply pw_below_drewN | apply below_drew1) | exact HB.out)⟩
    ·rw [if_neg c12] at H
     have c12b0 : (t206 == (wrap32 (a2))) = false := beq_eq_false_iff_ne.mpr c12
     have c12b1 : (t206 != (wrap32 (a2))) = true := bne_iff_ne.mpr c12
     obtain rfl := Option.some.inj H
     go_enter Try.func99, Try.ntmps99
     go_wp2_with (first | ((with_reducible refine gate_callee (f := 90) rfl ?_); refine goesL_ (some 11) rfl rfl Try.func90 (by kernel_rfl) rfl #[.string a0, .int .i64 a1] rfl (by (try simp only [List.map_toArray, List.map_cons, List.map_nil]); first | done | rfl | (simp only [List.length_drop, List.length_take]; rfl)) ?_; (with_reducible refine (goscan_at.calls a0 a1 t204 _ A4.out).mono ?_); rintro e w' ⟨rfl, ⟨nd, rfl⟩⟩; refine ⟨_, rfl, ?_⟩) | ((with_reducible refine gate_callee (f := 91) rfl ?_); refine goesL_ (some 20) rfl rfl Try.func91 (by kernel_rfl) rfl #[.string a0, .int .i64 a1] rfl (by (try simp only [List.map_toArray, List.map_cons, List.map_nil]); first | done | rfl | (simp only [List.length_drop, List.length_take]; rfl)) ?_; (with_reducible refine (goscan_plainRune.calls a0 a1 t206 t207 _ A7.out).mono ?_); rintro e w14 ⟨rfl, hb⟩; refine ⟨_, rfl, ?_⟩; have n0_ := Aside0.mk (below_step (by repeat (first | (with_reducible first | exact HB.out | apply below_alloc | apply pw_below_drewN | apply below_drew1) | exact HB.out)) hb); clear HB; have HB := n0_; clear n0_; (try clear hb); (try clear hb2); (try clear hk); (try clear hi)))
     go_ret
     exact ⟨by first | rfl | (simp [errW_none, errW_some] <;> rfl) | (simp [*, errW_none, errW_some] <;> rfl), by repeat (first | (with_reducible first | exact HB.out | apply below_alloc | apply pw_below_drewN | apply below_drew1) | exact HB.out)⟩
def goscan_charForm.f (k : Nat) (a0 : ByteArray) (a1 : Int) : Option (Int) := (goscan_at.f a0 a1).bind fun t208 => (if t208 = 39 then ((goscan_oneForm.f k a0 (wrap64 (a1 + 1)) 39).bind fun t209 => (if t209 < 0 then (some (-1)) else ((goscan_at.f a0 t209).bind fun t210 => (if t210 = 39 then (some (wrap64 (t209 + 1))) else (some (-1)))))) else (some (-1)))
theorem goscan_charForm.mono : ∀ a0 a1 k, LeO (goscan_charForm.f k a0 a1) (goscan_charForm.f (k + 1) a0 a1) := by
 intro a0 a1 k
 unfold goscan_charForm.f
 repeat' first
   | (with_reducible exact goscan_oneForm.mono _ _ _ _)
   | (with_reducible exact LeO.refl _)
   | (with_reducible exact LeO.none _)
   | (with_reducible refine LeO.ite ?_ ?_)
   | (with_reducible refine LeO.bind ?_ (fun _ => ?_))
   | exact goscan_oneForm.mono _ _ _ _
   | exact LeO.none _
   | refine LeO.ite ?_ ?_
   | refine LeO.bind ?_ (fun _ => ?_)
set_option maxHeartbeats 8000000 in
set_option maxRecDepth 100000 in
theorem goscan_charForm.calls (k : Nat) (a0 : ByteArray) (a1 : Int) (r : Int) (w : World) (h : goscan_charForm.f k a0 a1 = some r) :
  Calls Try.prog 75 #[.string a0, .int .i64 a1] w fun e w' => e = .returned (.int .i64 r) ∧ Below w.heap.size w w' := by
 have HB := Aside0.mk (Below.refl w.heap.size w)
 have H : ((goscan_at.f a0 a1).bind fun t208 => (if t208 = 39 then ((goscan_oneForm.f k a0 (wrap64 (a1 + 1)) 39).bind fun t209 => (if t209 < 0 then (some (-1)) else ((goscan_at.f a0 t209).bind fun t210 => (if t210 = 39 then (some (wrap64 (t209 + 1))) else (some (-1)))))) else (some (-1)))) = some r := h
 clear h
 replace H := Option.bind_eq_some_iff.mp H
 obtain ⟨t208, A30, H⟩ := H
 replace H : (if t208 = 39 then ((goscan_oneForm.f k a0 (wrap64 (a1 + 1)) 39).bind fun t209 => (if t209 < 0 then (some (-1)) else ((goscan_at.f a0 t209).bind fun t210 => (if t210 = 39 then (some (wrap64 (t209 + 1))) else (some (-1)))))) else (some (-1))) = some r := H
 have A3 := Aside0.mk A30
 clear A30
 by_cases c4 : t208 = 39
 ·rw [if_pos c4] at H
  have c4b0 : (t208 == 39) = true := beq_iff_eq.mpr c4
  have c4b1 : (t208 != 39) = false := bne_eq_false_iff_eq.mpr c4
  clear c4
  replace H := Option.bind_eq_some_iff.mp H
  obtain ⟨t209, A50, H⟩ := H
  replace H : (if t209 < 0 then (some (-1)) else ((goscan_at.f a0 t209).bind fun t210 => (if t210 = 39 then (some (wrap64 (t209 + 1))) else (some (-1))))) = some r := H
  have A5 := Aside0.mk A50
  clear A50
  by_cases c6 : t209 < 0
  ·rw [if_pos c6] at H
   have c6b0 : decide (t209 < 0) = true := decide_eq_true c6
   clear c6
   obtain rfl := Option.some.inj H
   go_enter Try.func75, Try.ntmps75
   go_wp2_with (first | ((with_reducible refine gate_callee (f := 90) rfl ?_); refine goesL_ (some 8) rfl rfl Try.func90 (by kernel_rfl) rfl #[.string a0, .int .i64 a1] rfl (by (try simp only [List.map_toArray, List.map_cons, List.map_nil]); first | done | rfl | (simp only [List.length_drop, List.length_take]; rfl)) ?_; (with_reducible refine (goscan_at.calls a0 a1 t208 _ A3.out).mono ?_); rintro e w' ⟨rfl, ⟨nd, rfl⟩⟩; refine ⟨_, rfl, ?_⟩) | ((with_reducible refine gate_callee (f := 99) rfl ?_); refine goesL_ (some 13) rfl rfl Try.func99 (by kernel_rfl) rfl #[.string a0, .int .i64 (wrap64 (a1 + 1)), .int .u8 39] rfl (by (try simp only [List.map_toArray, List.map_cons, List.map_nil]); first | done | rfl | (simp only [List.length_drop, List.length_take]; rfl)) ?_; (with_reducible refine (goscan_oneForm.calls k a0 (wrap64 (a1 + 1)) 39 t209 _ A5.out).mono ?_); rintro e w7 ⟨rfl, hb⟩; refine ⟨_, rfl, ?_⟩; have n0_ := Aside0.mk (below_step (by repeat (first | (with_reducible first | exact HB.out | apply below_alloc | apply pw_below_drewN | apply below_drew1) | exact HB.out)) hb); clear HB; have HB := n0_; clear n0_; (try clear hb); (try clear hb2); (try clear hk); (try clear hi)))
   go_ret
   exact ⟨by first | rfl | (simp [errW_none, errW_some] <;> rfl) | (simp [*, errW_none, errW_some] <;> rfl), by repeat (first | (with_reducible first | exact HB.out | apply below_alloc | apply pw_below_drewN | apply below_drew1) | exact HB.out)⟩
  ·rw [if_neg c6] at H
   have c6b0 : decide (t209 < 0) = false := decide_eq_false c6
   clear c6
   replace H := Option.bind_eq_some_iff.mp H
   obtain ⟨t210, A80, H⟩ := H
   replace H : (if t210 = 39 then (some (wrap64 (t209 + 1))) else (some (-1))) = some r := H
   have A8 := Aside0.mk A80
   clear A80
   by_cases c9 : t210 = 39
   ·rw [if_pos c9] at H
    have c9b0 : (t210 == 39) = true := beq_iff_eq.mpr c9
    have c9b1 : (t210 != 39) = false := bne_eq_false_iff_eq.mpr c9
    clear c9
    obtain rfl := Option.some.inj H
    go_enter Try.func75, Try.ntmps75
    go_wp2_with (first | ((with_reducible refine gate_callee (f := 90) rfl ?_); refine goesL_ (some 8) rfl rfl Try.func90 (by kernel_rfl) rfl #[.string a0, .int .i64 a1] rfl (by (try simp only [List.map_toArray, List.map_cons, List.map_nil]); first | done | rfl | (simp only [List.length_drop, List.length_take]; rfl)) ?_; (with_reducible refine (goscan_at.calls a0 a1 t208 _ A3.out).mono ?_); rintro e w' ⟨rfl, ⟨nd, rfl⟩⟩; refine ⟨_, rfl, ?_⟩) | ((with_reducible refine gate_callee (f := 99) rfl ?_); refine goesL_ (some 13) rfl rfl Try.func99 (by kernel_rfl) rfl #[.string a0, .int .i64 (wrap64 (a1 + 1)), .int .u8 39] rfl (by (try simp only [List.map_toArray, List.map_cons, List.map_nil]); first | done | rfl | (simp only [List.length_drop, List.length_take]; rfl)) ?_; (with_reducible refine (goscan_oneForm.calls k a0 (wrap64 (a1 + 1)) 39 t209 _ A5.out).mono ?_); rintro e w10 ⟨rfl, hb⟩; refine ⟨_, rfl, ?_⟩; have n0_ := Aside0.mk (below_step (by repeat (first | (with_reducible first | exact HB.out | apply below_alloc | apply pw_below_drewN | apply below_drew1) | exact HB.out)) hb); clear HB; have HB := n0_; clear n0_; (try clear hb); (try clear hb2); (try clear hk); (try clear hi)) | (go_at_call 90; (with_reducible refine (goscan_at.calls a0 t209 t210 _ A8.out).mono ?_); rintro e w' ⟨rfl, ⟨nd, rfl⟩⟩))
    go_ret
    exact ⟨by first | rfl | (simp [errW_none, errW_some] <;> rfl) | (simp [*, errW_none, errW_some] <;> rfl), by repeat (first | (with_reducible first | exact HB.out | apply below_alloc | apply pw_below_drewN | apply below_drew1) | exact HB.out)⟩
   ·rw [if_neg c9] at H
    have c9b0 : (t210 == 39) = false := beq_eq_false_iff_ne.mpr c9
    have c9b1 : (t210 != 39) = true := bne_iff_ne.mpr c9
    obtain rfl := Option.some.inj H
    go_enter Try.func75, Try.ntmps75
    go_wp2_with (first | ((with_reducible refine gate_callee (f := 90) rfl ?_); refine goesL_ (some 8) rfl rfl Try.func90 (by kernel_rfl) rfl #[.string a0, .int .i64 a1] rfl (by (try simp only [List.map_toArray, List.map_cons, List.map_nil]); first | done | rfl | (simp only [List.length_drop, List.length_take]; rfl)) ?_; (with_reducible refine (goscan_at.calls a0 a1 t208 _ A3.out).mono ?_); rintro e w' ⟨rfl, ⟨nd, rfl⟩⟩; refine ⟨_, rfl, ?_⟩) | ((with_reducible refine gate_callee (f := 99) rfl ?_); refine goesL_ (some 13) rfl rfl Try.func99 (by kernel_rfl) rfl #[.string a0, .int .i64 (wrap64 (a1 + 1)), .int .u8 39] rfl (by (try simp only [List.map_toArray, List.map_cons, List.map_nil]); first | done | rfl | (simp only [List.length_drop, List.length_take]; rfl)) ?_; (with_reducible refine (goscan_oneForm.calls k a0 (wrap64 (a1 + 1)) 39 t209 _ A5.out).mono ?_); rintro e w11 ⟨rfl, hb⟩; refine ⟨_, rfl, ?_⟩; have n0_ := Aside0.mk (below_step (by repeat (first | (with_reducible first | exact HB.out | apply below_alloc | apply pw_below_drewN | apply below_drew1) | exact HB.out)) hb); clear HB; have HB := n0_; clear n0_; (try clear hb); (try clear hb2); (try clear hk); (try clear hi)) | (go_at_call 90; (with_reducible refine (goscan_at.calls a0 t209 t210 _ A8.out).mono ?_); rintro e w' ⟨rfl, ⟨nd, rfl⟩⟩))
    go_ret
    exact ⟨by first | rfl | (simp [errW_none, errW_some] <;> rfl) | (simp [*, errW_none, errW_some] <;> rfl), by repeat (first | (with_reducible first | exact HB.out | apply below_alloc | apply pw_below_drewN | apply below_drew1) | exact HB.out)⟩
 ·rw [if_neg c4] at H
  have c4b0 : (t208 == 39) = false := beq_eq_false_iff_ne.mpr c4
  have c4b1 : (t208 != 39) = true := bne_iff_ne.mpr c4
  obtain rfl := Option.some.inj H
  go_enter Try.func75, Try.ntmps75
  go_wp2_with (first | ((with_reducible refine gate_callee (f := 90) rfl ?_); refine goesL_ (some 8) rfl rfl Try.func90 (by kernel_rfl) rfl #[.string a0, .int .i64 a1] rfl (by (try simp only [List.map_toArray, List.map_cons, List.map_nil]); first | done | rfl | (simp only [List.length_drop, List.length_take]; rfl)) ?_; (with_reducible refine (goscan_at.calls a0 a1 t208 _ A3.out).mono ?_); rintro e w' ⟨rfl, ⟨nd, rfl⟩⟩; refine ⟨_, rfl, ?_⟩))
  go_ret
  exact ⟨by first | rfl | (simp [errW_none, errW_some] <;> rfl) | (simp [*, errW_none, errW_some] <;> rfl), by repeat (first | (with_reducible first | exact HB.out | apply below_alloc | apply pw_below_drewN | apply below_drew1) | exact HB.out)⟩
end Go.Proofs.Ytcajiapjdlphmaa.H
