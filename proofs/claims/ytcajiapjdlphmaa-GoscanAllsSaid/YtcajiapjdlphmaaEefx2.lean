import Derived.Test.YtcajiapjdlphmaaEPre
import Derived.Test.YtcajiapjdlphmaaEefx0
import Derived.Test.YtcajiapjdlphmaaEefx1
namespace Go.Proofs.Ytcajiapjdlphmaa.H
open Go.RowKit Go.Proofs.YtcajiapjdlphmaaW.PrintWords Go.Proofs.YtcajiapjdlphmaaW.PrintLast Go.Proofs.YtcajiapjdlphmaaW.PrintMore
attribute [local go_sem] max2_int min2_int max_two min_two max_three min_three max_four min_four
set_option linter.unusedVariables false
set_option linter.unusedSimpArgs false
mutual
def quoinref26_float.j0 : Nat → ByteArray → Int → Bool → Option (Int)
 | 0, _, _, _ => none
 | k + 1, x0, x1, x34 => if x34 = true then ((quoinref26_mantissa.f k x0 (wrap64 (x1 + 2))).bind fun t310 => (if t310 ≥ 0 then ((quoinref26_exponent.f k x0 t310 112).bind fun t311 => (if t311 ≥ 0 then (some t311) else (quoinref26_float.j1 k x0 x1))) else (quoinref26_float.j1 k x0 x1))) else (quoinref26_float.j1 k x0 x1)
def quoinref26_float.j1 : Nat → ByteArray → Int → Option (Int)
 | 0, _, _ => none
 | k + 1, x0, x1 => (quoinref26_digits.f k x0 x1 10).bind fun t312 => (if t312 < 0 then (some (-1)) else ((quoinref26_at.f x0 t312).bind fun t313 => (if t313 = 46 then ((quoinref26_digits.f k x0 (wrap64 (t312 + 1)) 10).bind fun t314 => ((quoinref26_exponent.f k x0 (mx (wrap64 (t312 + 1)) t314) 101).bind fun t315 => (some (mx (mx (wrap64 (t312 + 1)) t314) t315)))) else ((quoinref26_exponent.f k x0 t312 101).bind fun t316 => (some t316)))))
end
def quoinref26_float.f (k : Nat) (a0 : ByteArray) (a1 : Int) : Option (Int) := (quoinref26_at.f a0 a1).bind fun t305 => (if t305 = 46 then ((quoinref26_digits.f k a0 (wrap64 (a1 + 1)) 10).bind fun t306 => (if t306 < 0 then (some (-1)) else ((quoinref26_exponent.f k a0 t306 101).bind fun t307 => (some (mx t306 t307))))) else (if t305 = 48 then ((quoinref26_at.f a0 (wrap64 (a1 + 1))).bind fun t308 => ((quoinref26_low.f t308).bind fun t309 => (quoinref26_float.j0 k a0 a1 (t309 == 120)))) else (quoinref26_float.j0 k a0 a1 false)))
set_option maxHeartbeats 8000000 in
set_option maxRecDepth 100000 in
theorem quoinref26_float.calls {k : Nat} {a0 : ByteArray} {a1 : Int} {r : Int} {w : World} (h : quoinref26_float.f k a0 a1 = some r) :
  Calls Try.prog 56 #[.string a0, .int .i64 a1] w fun e w' => e = .returned (.int .i64 r) ∧ Below w.heap.size w w' := by
 have HB := Aside0.mk (Below.refl w.heap.size w)
 have H : ((quoinref26_at.f a0 a1).bind fun t305 => (if t305 = 46 then ((quoinref26_digits.f k a0 (wrap64 (a1 + 1)) 10).bind fun t306 => (if t306 < 0 then (some (-1)) else ((quoinref26_exponent.f k a0 t306 101).bind fun t307 => (some (mx t306 t307))))) else (if t305 = 48 then ((quoinref26_at.f a0 (wrap64 (a1 + 1))).bind fun t308 => ((quoinref26_low.f t308).bind fun t309 => (quoinref26_float.j0 k a0 a1 (t309 == 120)))) else (quoinref26_float.j0 k a0 a1 false)))) = some r := h
 clear h
 replace H := bS H
 obtain ⟨t305, A3, H⟩ := H
 try dsimp only at H
 by_cases c4 : t305 = 46
 ·rw [if_pos c4] at H
  have c4b0 := e1 c4
  have c4b1 := e2 c4
  clear c4
  replace H := bS H
  obtain ⟨t306, A5, H⟩ := H
  try dsimp only at H
  by_cases c6 : t306 < 0
  ·rw [if_pos c6] at H
   have c6b0 := decide_eq_true c6
   clear c6
   obtain rfl := Option.some.inj H
   go_enter Try.func56, Try.ntmps56
   go_wp2_with (first | (refine gR (some 10) Try.func50 (quoinref26_at.calls A3.out) (h := ?_); rintro _ ⟨nd, rfl⟩) | (refine gR (some 15) Try.func80 (quoinref26_digits.calls A5.out) (h := ?_); rintro _ ⟨nd, rfl⟩))
   go_ret
   exact ⟨Z2, Z0⟩
  ·rw [if_neg c6] at H
   have c6b0 := decide_eq_false c6
   clear c6
   replace H := bS H
   obtain ⟨t307, A7, H⟩ := H
   try dsimp only at H
   obtain ⟨ji8, hji8⟩ : ∃ j_ : Int, (mx t306 t307) = j_ := ⟨_, rfl⟩
   replace H : (some ji8) = some r := by first | (rw [hji8] at H; exact H) | (simp only [hji8] at H ⊢; exact H)
   (try rw [hji8] at A3)
   (try rw [hji8] at A5)
   (try rw [hji8] at A7)
   have hji8_ : (if t306 < t307 then t307 else t306) = ji8 := hji8
   obtain rfl := Option.some.inj H
   go_enter Try.func56, Try.ntmps56
   go_wp2_with (first | (refine gR (some 10) Try.func50 (quoinref26_at.calls A3.out) (h := ?_); rintro _ ⟨nd, rfl⟩) | (refine gR (some 15) Try.func80 (quoinref26_digits.calls A5.out) (h := ?_); rintro _ ⟨nd, rfl⟩) | (refine gR (some 21) Try.func83 (quoinref26_exponent.calls A7.out) (h := ?_); rintro _ ⟨nd, rfl⟩))
   go_ret
   exact ⟨Z44, Z0⟩
 ·rw [if_neg c4] at H
  have c4b0 := e3 c4
  have c4b1 := e4 c4
  have HC9 := Aside0.mk H
  clear H
  go_enter Try.func56, Try.ntmps56
  go_upto_region 6 with (first | (refine gR (some 10) Try.func50 (quoinref26_at.calls A3.out) (h := ?_); rintro _ ⟨nd, rfl⟩))
  (try simp only [Act.put, List.setIfInBounds_toArray, List.set_cons_zero, List.set_cons_succ])
  go_cut [34] (fun v34 wc => ∃ (kq : Nat) (x34_8 : Bool), v34 = .bool x34_8 ∧ Aside0 (quoinref26_float.j0 kq a0 a1 x34_8 = some r) ∧ Aside0 (kq ≤ k) ∧ Aside0 (Below w.heap.size w wc))
  case first =>
   have H := HC9.out
   clear HC9
   by_cases c10 : t305 = 48
   ·rw [if_pos c10] at H
    have c10b0 := e1 c10
    have c10b1 := e2 c10
    clear c10
    (first | rw [c10b0] | (simp only [i64_w, i32_w]; rw [c10b0]) | skip)
    replace H := bS H
    obtain ⟨t308, A11, H⟩ := H
    try dsimp only at H
    replace H := bS H
    obtain ⟨t309, A12, H⟩ := H
    try dsimp only at H
    have H' := Aside0.mk H
    clear H
    go_wp2_with (first | (refine gR (some 25) Try.func50 (quoinref26_at.calls A3.out) (h := ?_); rintro _ ⟨nd, rfl⟩) | (go_at_call 50; (with_reducible refine (quoinref26_at.calls A11.out).mono ?_); rintro e w' ⟨rfl, ⟨nd, rfl⟩⟩) | (go_at_call 81; (with_reducible refine (quoinref26_low.calls A12.out).mono ?_); rintro e w' ⟨rfl, ⟨nd, rfl⟩⟩))
    go_meet
    case rel => exact ⟨_, ((t309 == 120)), Z1, H', ⟨Z26⟩, ⟨Z0⟩⟩
   ·rw [if_neg c10] at H
    have c10b0 := e3 c10
    have c10b1 := e4 c10
    (first | rw [c10b0] | (simp only [i64_w, i32_w]; rw [c10b0]) | skip)
    have H' := Aside0.mk H
    clear H
    go_wp2_with (first | (refine gR (some 25) Try.func50 (quoinref26_at.calls A3.out) (h := ?_); rintro _ ⟨nd, rfl⟩))
    go_meet
    case rel => exact ⟨_, (false), Z1, H', ⟨Z26⟩, ⟨Z0⟩⟩
  case rest =>
   clear HC9
   try clear c1
   try clear p2
   try clear c4
   try clear c4b0
   try clear c4b1
   try clear c5
   try clear c6
   try clear c6b0
   try clear p6
   try clear c8
   try clear c10
   try clear c10b0
   try clear c10b1
   obtain ⟨kq, x34_8, rfl, HA, HJ8, HB⟩ := hcut
   cases kq with
   | zero => exact absurd HA.out (by simp [quoinref26_float.j0])
   | succ kj8 =>
    have H := HA.out
    clear HA
    simp only [quoinref26_float.j0] at H
    have HC13 := Aside0.mk H
    clear H
    go_upto_if 34 with (fail)
    go_cut [] (fun wc => ∃ (kq : Nat), Aside0 (quoinref26_float.j1 kq a0 a1 = some r) ∧ Aside0 (kq ≤ kj8) ∧ Aside0 (Below w.heap.size w wc))
    case first =>
     have H := HC13.out
     clear HC13
     by_cases c14 : x34_8 = true
     ·subst c14
      have H1 : ((quoinref26_mantissa.f kj8 a0 (wrap64 (a1 + 2))).bind fun t310 => (if t310 ≥ 0 then ((quoinref26_exponent.f kj8 a0 t310 112).bind fun t311 => (if t311 ≥ 0 then (some t311) else (quoinref26_float.j1 kj8 a0 a1))) else (quoinref26_float.j1 kj8 a0 a1))) = some r := by rw [if_pos rfl] at H; exact H
      clear H
      have H := H1
      clear H1
      replace H := bS H
      obtain ⟨t310, A15, H⟩ := H
      try dsimp only at H
      by_cases c16 : t310 ≥ 0
      ·rw [if_pos c16] at H
       have c16b0 : decide (0 ≤ t310) = true := decide_eq_true c16
       clear c16
       (first | rw [c16b0] | (simp only [i64_w, i32_w]; rw [c16b0]) | skip)
       replace H := bS H
       obtain ⟨t311, A17, H⟩ := H
       try dsimp only at H
       by_cases c18 : t311 ≥ 0
       ·rw [if_pos c18] at H
        have c18b0 : decide (0 ≤ t311) = true := decide_eq_true c18
        clear c18
        obtain rfl := Option.some.inj H
        go_wp2_with (first | (refine gR (some 38) Try.func84 (quoinref26_mantissa.calls A15.out) (h := ?_); rintro w19 hb; replace HB := Aside0.mk (below_step zB hb); (try clear hb); (try clear hb2); (try clear hk); (try clear hi)) | (go_at_call 83; (with_reducible refine (quoinref26_exponent.calls A17.out).mono ?_); rintro e w' ⟨rfl, ⟨nd, rfl⟩⟩) | (refine gR (some 49) Try.func83 (quoinref26_exponent.calls A17.out) (h := ?_); rintro _ ⟨nd, rfl⟩))
        go_ret
        exact ⟨Z2, Z0⟩
       ·rw [if_neg c18] at H
        have c18b0 : decide (0 ≤ t311) = false := decide_eq_false c18
        clear c18
        have H' := Aside0.mk H
        clear H
        go_wp2_with (first | (refine gR (some 38) Try.func84 (quoinref26_mantissa.calls A15.out) (h := ?_); rintro w20 hb; replace HB := Aside0.mk (below_step zB hb); (try clear hb); (try clear hb2); (try clear hk); (try clear hi)) | (go_at_call 83; (with_reducible refine (quoinref26_exponent.calls A17.out).mono ?_); rintro e w' ⟨rfl, ⟨nd, rfl⟩⟩))
        go_meet
        case rel => exact ⟨_, H', ⟨by have := HJ8.out; first | omega | exact Nat.le_refl _⟩, ⟨Z0⟩⟩
      ·rw [if_neg c16] at H
       have c16b0 : decide (0 ≤ t310) = false := decide_eq_false c16
       clear c16
       (first | rw [c16b0] | (simp only [i64_w, i32_w]; rw [c16b0]) | skip)
       have H' := Aside0.mk H
       clear H
       go_wp2_with (first | (refine gR (some 38) Try.func84 (quoinref26_mantissa.calls A15.out) (h := ?_); rintro w21 hb; replace HB := Aside0.mk (below_step zB hb); (try clear hb); (try clear hb2); (try clear hk); (try clear hi)))
       go_meet
       case rel => exact ⟨_, H', ⟨by have := HJ8.out; first | omega | exact Nat.le_refl _⟩, ⟨Z0⟩⟩
     ·replace c14 := Bool.eq_false_iff.mpr c14
      subst c14
      have H1 : (quoinref26_float.j1 kj8 a0 a1) = some r := by rw [if_neg (show ¬ (false = true) by decide)] at H; exact H
      clear H
      have H := H1
      clear H1
      have H' := Aside0.mk H
      clear H
      go_wp2
      go_meet
      case rel => exact ⟨_, H', ⟨by have := HJ8.out; first | omega | exact Nat.le_refl _⟩, ⟨Z0⟩⟩
    case rest =>
     clear HC13
     try clear c1
     try clear p2
     try clear c4
     try clear c4b0
     try clear c4b1
     try clear c5
     try clear c6
     try clear c6b0
     try clear p6
     try clear c8
     try clear c10
     try clear c10b0
     try clear c10b1
     try clear c14
     try clear c16
     try clear c16b0
     try clear c18
     try clear c18b0
     try clear p2
     try clear p6
     obtain ⟨kq, HA, HJ12, HB⟩ := hcut
     cases kq with
     | zero => exact absurd HA.out (by simp [quoinref26_float.j1])
     | succ kj12 =>
      have H := HA.out
      clear HA
      simp only [quoinref26_float.j1] at H
      replace H := bS H
      obtain ⟨t312, A22, H⟩ := H
      try dsimp only at H
      by_cases c23 : t312 < 0
      ·rw [if_pos c23] at H
       have c23b0 := decide_eq_true c23
       clear c23
       obtain rfl := Option.some.inj H
       go_wp2_with (first | (refine gR (some 52) Try.func80 (quoinref26_digits.calls A22.out) (h := ?_); rintro _ ⟨nd, rfl⟩))
       go_ret
       exact ⟨Z2, Z0⟩
      ·rw [if_neg c23] at H
       have c23b0 := decide_eq_false c23
       clear c23
       replace H := bS H
       obtain ⟨t313, A24, H⟩ := H
       try dsimp only at H
       by_cases c25 : t313 = 46
       ·rw [if_pos c25] at H
        have c25b0 := e1 c25
        have c25b1 := e2 c25
        clear c25
        replace H := bS H
        obtain ⟨t314, A26, H⟩ := H
        try dsimp only at H
        obtain ⟨ji27, hji27⟩ : ∃ j_ : Int, (mx (wrap64 (t312 + 1)) t314) = j_ := ⟨_, rfl⟩
        replace H : ((quoinref26_exponent.f kj12 a0 (ji27) 101).bind fun t315 => (some (mx (ji27) t315))) = some r := by first | (rw [hji27] at H; exact H) | (simp only [hji27] at H ⊢; exact H)
        (try rw [hji27] at A22)
        (try rw [hji27] at A24)
        (try rw [hji27] at A26)
        have hji27_ : (if (wrap64 (t312 + 1)) < t314 then t314 else (wrap64 (t312 + 1))) = ji27 := hji27
        replace H := bS H
        obtain ⟨t315, A28, H⟩ := H
        try dsimp only at H
        obtain ⟨ji29, hji29⟩ : ∃ j_ : Int, (mx (ji27) t315) = j_ := ⟨_, rfl⟩
        replace H : (some ji29) = some r := by first | (rw [hji29] at H; exact H) | (simp only [hji29] at H ⊢; exact H)
        (try rw [hji29] at A22)
        (try rw [hji29] at A24)
        (try rw [hji29] at A26)
        (try rw [hji29] at A28)
        have hji29_ : (if (ji27) < t315 then t315 else (ji27)) = ji29 := hji29
        obtain rfl := Option.some.inj H
        go_wp2_with (first | (refine gR (some 52) Try.func80 (quoinref26_digits.calls A22.out) (h := ?_); rintro _ ⟨nd, rfl⟩) | (refine gR (some 57) Try.func50 (quoinref26_at.calls A24.out) (h := ?_); rintro _ ⟨nd, rfl⟩) | (refine gR (some 67) Try.func80 (quoinref26_digits.calls A26.out) (h := ?_); rintro _ ⟨nd, rfl⟩) | ((with_reducible refine gC 83 rfl ?_); refine goesL_ (some 72) rfl rfl Try.func83 Z5 rfl #[.string a0, .int .i64 ji27, .int .u8 101] rfl (by (try simp only [List.map_toArray, List.map_cons, List.map_nil]); first | done | (simp only [hji27]; rfl) | rfl | (simp only [List.length_drop, List.length_take]; rfl)) ?_; (with_reducible refine (quoinref26_exponent.calls A28.out).mono ?_); rintro e w' ⟨rfl, ⟨nd, rfl⟩⟩; refine ⟨_, rfl, ?_⟩))
        go_ret
        exact ⟨by first | rfl | (simp [errW_none, errW_some] <;> rfl) | (simp only [← hji27, ← hji29]; first | rfl | (simp [errW_none, errW_some] <;> rfl)) | (simp [*, errW_none, errW_some] <;> rfl), Z0⟩
       ·rw [if_neg c25] at H
        have c25b0 := e3 c25
        have c25b1 := e4 c25
        replace H := bS H
        obtain ⟨t316, A30, H⟩ := H
        try dsimp only at H
        obtain rfl := Option.some.inj H
        go_wp2_with (first | (refine gR (some 52) Try.func80 (quoinref26_digits.calls A22.out) (h := ?_); rintro _ ⟨nd, rfl⟩) | (refine gR (some 57) Try.func50 (quoinref26_at.calls A24.out) (h := ?_); rintro _ ⟨nd, rfl⟩) | (refine gR (some 61) Try.func83 (quoinref26_exponent.calls A30.out) (h := ?_); rintro _ ⟨nd, rfl⟩))
        go_ret
        exact ⟨Z2, Z0⟩
def quoinref26_imag.l0 : Nat → ByteArray → List Int → Int → Int → Option (Int)
 | 0, _, _, _, _ => none
 | k + 1, x0, x5, x6, x7 => if x7 < (x5.length : Int) then (if 0 ≤ x7 then (if (rd x5 x7) ≥ 0 then ((quoinref26_at.f x0 (rd x5 x7)).bind fun t325 => (if t325 = 105 then (quoinref26_imag.l0 k x0 x5 (mx x6 (wrap64 ((rd x5 x7) + 1))) (wrap64 (x7 + 1))) else (quoinref26_imag.l0 k x0 x5 x6 (wrap64 (x7 + 1))))) else (quoinref26_imag.l0 k x0 x5 x6 (wrap64 (x7 + 1)))) else (none)) else (some x6)
def quoinref26_imag.f (k : Nat) (a0 : ByteArray) (a1 : Int) : Option (Int) := (quoinref26_digits.f k a0 a1 10).bind fun t317 => ((quoinref26_whole.f k a0 a1).bind fun t318 => ((quoinref26_float.f k a0 a1).bind fun t319 => (quoinref26_imag.l0 k a0 (([t317, t318, t319] : List Int)) (-1) 0)))
set_option maxHeartbeats 8000000 in
set_option maxRecDepth 100000 in
theorem quoinref26_imag.calls {k : Nat} {a0 : ByteArray} {a1 : Int} {r : Int} {w : World} (h : quoinref26_imag.f k a0 a1 = some r) :
  Calls Try.prog 57 #[.string a0, .int .i64 a1] w fun e w' => e = .returned (.int .i64 r) ∧ Below w.heap.size w w' := by
 have HB := Aside0.mk (Below.refl w.heap.size w)
 have H : ((quoinref26_digits.f k a0 a1 10).bind fun t317 => ((quoinref26_whole.f k a0 a1).bind fun t318 => ((quoinref26_float.f k a0 a1).bind fun t319 => (quoinref26_imag.l0 k a0 (([t317, t318, t319] : List Int)) (-1) 0)))) = some r := h
 clear h
 replace H := bS H
 obtain ⟨t317, A3, H⟩ := H
 try dsimp only at H
 replace H := bS H
 obtain ⟨t318, A4, H⟩ := H
 try dsimp only at H
 replace H := bS H
 obtain ⟨t319, A5, H⟩ := H
 try dsimp only at H
 obtain ⟨y320, hy320⟩ : ∃ y_ : List Int, y_ = (([t317, t318, t319] : List Int)) := ⟨_, rfl⟩
 replace H : (quoinref26_imag.l0 k a0 y320 (-1) 0) = some r := by first | (rw [hy320]; with_reducible exact H) | (have H2_ := (Option.bind_some _ _).symm.trans H; rw [hy320]; with_reducible exact H2_) | (have H2_ := (Option.bind_some _ _).symm.trans H; with_reducible exact H2_) | with_reducible exact H | (rw [hy320]; exact H) | exact H
 have Ny320 := Aside0.mk hy320
 clear hy320
 have H' := Aside0.mk H
 clear H
 go_enter Try.func57, Try.ntmps57
 go_wp2_with (first | (refine gR (some 10) Try.func80 (quoinref26_digits.calls A3.out) (h := ?_); rintro _ ⟨nd, rfl⟩) | (refine gR (some 13) Try.func55 (quoinref26_whole.calls A4.out) (h := ?_); rintro w6 hb; replace HB := Aside0.mk (below_step zB hb); (try clear hb); (try clear hb2); (try clear hk); (try clear hi)) | (refine gR (some 16) Try.func56 (quoinref26_float.calls A5.out) (h := ?_); rintro w7 hb; replace HB := Aside0.mk (below_step zB hb); (try clear hb); (try clear hb2); (try clear hk); (try clear hi)) | ((with_reducible refine gate_dst (N := 17) rfl ?_); refine Kd.R_lit (Kd.int .i64) _ 3 ?hg (N := 17) ?hd (xs := ([t317, t318, t319] : List Int)) (inner := [.int .i64 t317, .int .i64 t318, .int .i64 t319]) (ok := fun _ => True) (okp := fun _ => True) ?hr ?hp (fun _ hk => hk) trivial (Below.refl _ _) (Nat.le_refl _) Z61 ?_; (case hd => rfl); (case hg => rfl); (case hr => first | (go_simp; done) | (go_simp; rfl)); (case hp => exact (Reps.one (show Kd.M (Kd.int .i64) _ _ _ t317 [.int .i64 t317] from rfl) (Reps.one (show Kd.M (Kd.int .i64) _ _ _ t318 [.int .i64 t318] from rfl) (Reps.one (show Kd.M (Kd.int .i64) _ _ _ t319 [.int .i64 t319] from rfl) (Reps.none _ _))))); intro v321 w8 ho9 hb hg_ hnew_; clear hg_ hnew_; (first | rw [← Ny320.out] at ho9 | (simp only [Int.reduceToNat] at ho9; rw [← Ny320.out] at ho9)); have HO322 := Aside0.mk (Kd.R_lower ho9 (below_size zB)); replace HB := Aside0.mk (below_step zB hb); clear hb ho9))
 go_loopg [6, 7] k (fun kq v6 v7 w' => ∃ (x6_1 : Int) (x7_1 : Int), v6 = .int .i64 x6_1 ∧ v7 = .int .i64 x7_1 ∧ Aside0 (quoinref26_imag.l0 kq a0 y320 x6_1 x7_1 = some r) ∧ Aside0 (kq ≤ k) ∧ Aside0 (Kd.R (Kd.int .i64) 3 w' w.heap.size (fun _ => True) v321 y320) ∧ Aside0 (Below w.heap.size w w'))
 case atStart => exact ⟨((-1)), (0), Z1, Z1, H', ⟨Nat.le_refl _⟩, ⟨by (with_reducible repeat (first | apply Kd.R_alloc | apply Kd.R_drewN | apply Kd.R_drew)); exact HO322.out⟩, ⟨Z0⟩⟩
 case round =>
  clear H'
  try clear p2
  try clear c5
  try clear c8
  obtain ⟨x6_1, x7_1, rfl, rfl, HA, HK1, HO_5, HB⟩ := hrel
  cases gk with
  | zero => exact absurd HA.out (by simp [quoinref26_imag.l0])
  | succ k1 =>
   have H := HA.out
   clear HA
   simp only [quoinref26_imag.l0] at H
   by_cases c10 : x7_1 < (y320.length : Int)
   ·rw [if_pos c10] at H
    have c10b0 := decide_eq_true c10
    clear c10
    by_cases c11 : 0 ≤ x7_1
    ·rw [if_pos c11] at H
     have c11b0 := decide_eq_true c11
     clear c11
     by_cases c12 : (rd y320 x7_1) ≥ 0
     ·rw [if_pos c12] at H
      have c12b0 : decide (0 ≤ (rd y320 x7_1)) = true := decide_eq_true c12
      clear c12
      replace H := bS H
      obtain ⟨t325, A13, H⟩ := H
      try dsimp only at H
      by_cases c14 : t325 = 105
      ·rw [if_pos c14] at H
       have c14b0 := e1 c14
       have c14b1 := e2 c14
       clear c14
       obtain ⟨ji15, hji15⟩ : ∃ j_ : Int, (mx x6_1 (wrap64 ((rd y320 x7_1) + 1))) = j_ := ⟨_, rfl⟩
       replace H : (quoinref26_imag.l0 k1 a0 y320 ji15 (wrap64 (x7_1 + 1))) = some r := by first | (rw [hji15] at H; exact H) | (simp only [hji15] at H ⊢; exact H)
       (try rw [hji15] at A13)
       have hji15_ : (if x6_1 < (wrap64 ((rd y320 x7_1) + 1)) then (wrap64 ((rd y320 x7_1) + 1)) else x6_1) = ji15 := hji15
       have H' := Aside0.mk H
       clear H
       obtain ⟨Ao16, co16, eo16⟩ := Kd.R_slice HO_5.out
       subst eo16
       have p323 : 0 ≤ (x7_1 : Int) := of_decide_eq_true Z3
       have q323 : x7_1 < (y320.length : Int) := of_decide_eq_true Z3
       obtain ⟨ad323, e323, hx323_0⟩ := Kd.at_int (Kd.R_reads' HO_5.out).2.2 x7_1 p323 q323
       cases e323
       replace p323 := eq_true p323
       replace q323 := eq_true q323
       have p324 : 0 ≤ (x7_1 : Int) := of_decide_eq_true Z3
       have q324 : x7_1 < (y320.length : Int) := of_decide_eq_true Z3
       obtain ⟨ad324, e324, hx324_0⟩ := Kd.at_int (Kd.R_reads' HO_5.out).2.2 x7_1 p324 q324
       obtain rfl : ad323 = ad324 := (by injection e324)
       replace p324 := eq_true p324
       replace q324 := eq_true q324
       go_wp2_with (first | (go_at_call 50; (with_reducible refine (quoinref26_at.calls A13.out).mono ?_); rintro e w' ⟨rfl, ⟨nd, rfl⟩⟩; have p326 : 0 ≤ (x7_1 : Int) := of_decide_eq_true Z3; have q326 : x7_1 < (y320.length : Int) := of_decide_eq_true Z3; obtain ⟨ad326, e326, hx326_0⟩ := Kd.at_int (Kd.R_reads' HO_5.out).2.2 x7_1 p326 q326; obtain rfl : ad323 = ad326 := (by injection e326); replace p326 := eq_true p326; replace q326 := eq_true q326))
       go_roundg k1
       case measure => have := HK1.out; omega
       case rel => exact ⟨(ji15), (wrap64 (x7_1 + 1)), (by first | rfl | (simp; done) | (simp only [← hji15] <;> (first | rfl | (simp; done))) | (simp only [← hji15] <;> rw [u32_tmod]) | (simp only [← hji15] <;> simp <;> omega) | (simp [*]; done) | (simp <;> omega) | rw [u32_tmod]), Z1, H', ⟨Z36⟩, ⟨Z20⟩, ⟨Z0⟩⟩
      ·rw [if_neg c14] at H
       have c14b0 := e3 c14
       have c14b1 := e4 c14
       have H' := Aside0.mk H
       clear H
       obtain ⟨Ao17, co17, eo17⟩ := Kd.R_slice HO_5.out
       subst eo17
       have p323 : 0 ≤ (x7_1 : Int) := of_decide_eq_true Z3
       have q323 : x7_1 < (y320.length : Int) := of_decide_eq_true Z3
       obtain ⟨ad323, e323, hx323_0⟩ := Kd.at_int (Kd.R_reads' HO_5.out).2.2 x7_1 p323 q323
       cases e323
       replace p323 := eq_true p323
       replace q323 := eq_true q323
       have p324 : 0 ≤ (x7_1 : Int) := of_decide_eq_true Z3
       have q324 : x7_1 < (y320.length : Int) := of_decide_eq_true Z3
       obtain ⟨ad324, e324, hx324_0⟩ := Kd.at_int (Kd.R_reads' HO_5.out).2.2 x7_1 p324 q324
       obtain rfl : ad323 = ad324 := (by injection e324)
       replace p324 := eq_true p324
       replace q324 := eq_true q324
       go_wp2_with (first | (go_at_call 50; (with_reducible refine (quoinref26_at.calls A13.out).mono ?_); rintro e w' ⟨rfl, ⟨nd, rfl⟩⟩))
       go_roundg k1
       case measure => have := HK1.out; omega
       case rel => exact ⟨(x6_1), (wrap64 (x7_1 + 1)), Z1, Z1, H', ⟨Z36⟩, ⟨Z20⟩, ⟨Z0⟩⟩
     ·rw [if_neg c12] at H
      have c12b0 : decide (0 ≤ (rd y320 x7_1)) = false := decide_eq_false c12
      clear c12
      have H' := Aside0.mk H
      clear H
      obtain ⟨Ao18, co18, eo18⟩ := Kd.R_slice HO_5.out
      subst eo18
      have p323 : 0 ≤ (x7_1 : Int) := of_decide_eq_true Z3
      have q323 : x7_1 < (y320.length : Int) := of_decide_eq_true Z3
      obtain ⟨ad323, e323, hx323_0⟩ := Kd.at_int (Kd.R_reads' HO_5.out).2.2 x7_1 p323 q323
      cases e323
      replace p323 := eq_true p323
      replace q323 := eq_true q323
      go_wp2
      go_roundg k1
      case measure => have := HK1.out; omega
      case rel => exact ⟨(x6_1), (wrap64 (x7_1 + 1)), Z1, Z1, H', ⟨Z36⟩, ⟨Z20⟩, ⟨Z0⟩⟩
    ·rw [if_neg c11] at H
     exact absurd H Z61
   ·rw [if_neg c10] at H
    have c10b0 := decide_eq_false c10
    clear c10
    obtain rfl := Option.some.inj H
    obtain ⟨Ao19, co19, eo19⟩ := Kd.R_slice HO_5.out
    subst eo19
    go_wp2
    go_ret
    exact ⟨Z2, Z0⟩
def quoinref26_hexed.l0 : Nat → ByteArray → Int → Int → Int → Int → Option (Int)
 | 0, _, _, _, _, _ => none
 | k + 1, x0, x1, x2, x7, x8 => if x8 < x2 then ((quoinref26_at.f x0 (wrap64 (x1 + x8))).bind fun t327 => ((quoinref26_low.f t327).bind fun t328 => ((quoinref26_is.f k t328 16).bind fun t329 => (if t329 = true then (if t328 ≥ 97 then (quoinref26_hexed.l0 k x0 x1 x2 (wrap64 ((wrap64 ((wrap64 (16 * x7)) + ((t328 - 97) % 256))) + 10)) (wrap64 (x8 + 1))) else (quoinref26_hexed.l0 k x0 x1 x2 (wrap64 ((wrap64 (16 * x7)) + ((t328 - 48) % 256))) (wrap64 (x8 + 1)))) else (some (-1)))))) else (some x7)
def quoinref26_hexed.f (k : Nat) (a0 : ByteArray) (a1 : Int) (a2 : Int) : Option (Int) := quoinref26_hexed.l0 k a0 a1 a2 0 0
set_option maxHeartbeats 8000000 in
set_option maxRecDepth 100000 in
theorem quoinref26_hexed.calls {k : Nat} {a0 : ByteArray} {a1 : Int} {a2 : Int} {r : Int} {w : World} (h : quoinref26_hexed.f k a0 a1 a2 = some r) :
  Calls Try.prog 106 #[.string a0, .int .i64 a1, .int .i64 a2] w fun e w' => e = .returned (.int .i64 r) ∧ Drawn0 w w' := by
 have H : (quoinref26_hexed.l0 k a0 a1 a2 0 0) = some r := h
 clear h
 have H' := Aside0.mk H
 clear H
 go_enter Try.func106, Try.ntmps106
 go_wp2
 go_loopg [7, 8] k (fun kq v7 v8 w' => ∃ (x7_1 : Int) (x8_1 : Int), v7 = .int .i64 x7_1 ∧ v8 = .int .i64 x8_1 ∧ Aside0 (quoinref26_hexed.l0 kq a0 a1 a2 x7_1 x8_1 = some r) ∧ Aside0 (kq ≤ k) ∧ Drawn0 w w')
 case atStart => exact ⟨(0), (0), Z1, Z1, H', ⟨Nat.le_refl _⟩, Z4⟩
 case round =>
  clear H'
  try clear c1
  try clear p2
  obtain ⟨x7_1, x8_1, rfl, rfl, HA, HK1, ⟨m1, rfl⟩⟩ := hrel
  cases gk with
  | zero => exact absurd HA.out (by simp [quoinref26_hexed.l0])
  | succ k1 =>
   have H := HA.out
   clear HA
   simp only [quoinref26_hexed.l0] at H
   by_cases c4 : x8_1 < a2
   ·rw [if_pos c4] at H
    have c4b0 := decide_eq_true c4
    clear c4
    replace H := bS H
    obtain ⟨t327, A5, H⟩ := H
    try dsimp only at H
    replace H := bS H
    obtain ⟨t328, A6, H⟩ := H
    try dsimp only at H
    replace H := bS H
    obtain ⟨t329, A7, H⟩ := H
    try dsimp only at H
    by_cases c8 : t329 = true
    ·subst c8
     have H1 : (if t328 ≥ 97 then (quoinref26_hexed.l0 k1 a0 a1 a2 (wrap64 ((wrap64 ((wrap64 (16 * x7_1)) + ((t328 - 97) % 256))) + 10)) (wrap64 (x8_1 + 1))) else (quoinref26_hexed.l0 k1 a0 a1 a2 (wrap64 ((wrap64 (16 * x7_1)) + ((t328 - 48) % 256))) (wrap64 (x8_1 + 1)))) = some r := by rw [if_pos rfl] at H; exact H
     clear H
     have H := H1
     clear H1
     by_cases c9 : t328 ≥ 97
     ·rw [if_pos c9] at H
      have c9b0 : decide (97 ≤ t328) = true := decide_eq_true c9
      clear c9
      have H' := Aside0.mk H
      clear H
      go_wp2_with (first | (refine gR (some 19) Try.func50 (quoinref26_at.calls A5.out) (h := ?_); rintro _ ⟨nd, rfl⟩) | (refine gR (some 20) Try.func81 (quoinref26_low.calls A6.out) (h := ?_); rintro _ ⟨nd, rfl⟩) | (refine gR (some 22) Try.func79 (quoinref26_is.calls A7.out) (h := ?_); rintro _ ⟨nd, rfl⟩))
      go_roundg k1
      case measure => have := HK1.out; omega
      case rel => exact ⟨(wrap64 ((wrap64 ((wrap64 (16 * x7_1)) + ((t328 - 97) % 256))) + 10)), (wrap64 (x8_1 + 1)), Z1, Z1, H', ⟨Z36⟩, Z4⟩
     ·rw [if_neg c9] at H
      have c9b0 : decide (97 ≤ t328) = false := decide_eq_false c9
      clear c9
      have H' := Aside0.mk H
      clear H
      go_wp2_with (first | (refine gR (some 19) Try.func50 (quoinref26_at.calls A5.out) (h := ?_); rintro _ ⟨nd, rfl⟩) | (refine gR (some 20) Try.func81 (quoinref26_low.calls A6.out) (h := ?_); rintro _ ⟨nd, rfl⟩) | (refine gR (some 22) Try.func79 (quoinref26_is.calls A7.out) (h := ?_); rintro _ ⟨nd, rfl⟩))
      go_roundg k1
      case measure => have := HK1.out; omega
      case rel => exact ⟨(wrap64 ((wrap64 (16 * x7_1)) + ((t328 - 48) % 256))), (wrap64 (x8_1 + 1)), Z1, Z1, H', ⟨Z36⟩, Z4⟩
    ·replace c8 := Bool.eq_false_iff.mpr c8
     subst c8
     have H1 : (some (-1)) = some r := by rw [if_neg (show ¬ (false = true) by decide)] at H; exact H
     clear H
     have H := H1
     clear H1
     obtain rfl := Option.some.inj H
     go_wp2_with (first | (refine gR (some 19) Try.func50 (quoinref26_at.calls A5.out) (h := ?_); rintro _ ⟨nd, rfl⟩) | (refine gR (some 20) Try.func81 (quoinref26_low.calls A6.out) (h := ?_); rintro _ ⟨nd, rfl⟩) | (refine gR (some 22) Try.func79 (quoinref26_is.calls A7.out) (h := ?_); rintro _ ⟨nd, rfl⟩))
     go_ret
     exact ⟨Z1, Z4⟩
   ·rw [if_neg c4] at H
    have c4b0 := decide_eq_false c4
    clear c4
    obtain rfl := Option.some.inj H
    go_wp2
    go_ret
    exact ⟨Z1, Z4⟩
mutual
def quoinref26_escape.j2 : Nat → ByteArray → Int → Int → Option (Int)
 | 0, _, _, _ => none
 | k + 1, x0, x1, x7 => if x7 = 117 then (quoinref26_escape.j3 k x0 x1 x7 4) else (quoinref26_escape.j3 k x0 x1 x7 0)
def quoinref26_escape.j3 : Nat → ByteArray → Int → Int → Int → Option (Int)
 | 0, _, _, _, _ => none
 | k + 1, x0, x1, x7, x8 => if x7 = 85 then ((quoinref26_hexed.f k x0 (wrap64 (x1 + 2)) 8).bind fun t336 => (if t336 < 0 then (some (-1)) else (if t336 > 1114111 then (some (-1)) else (if t336 ≥ 55296 then (if t336 ≤ 57343 then (some (-1)) else (some (wrap64 ((wrap64 (x1 + 2)) + 8)))) else (some (wrap64 ((wrap64 (x1 + 2)) + 8))))))) else ((quoinref26_hexed.f k x0 (wrap64 (x1 + 2)) x8).bind fun t337 => (if x8 = 0 then (some (-1)) else (if t337 < 0 then (some (-1)) else (if t337 > 1114111 then (some (-1)) else (if t337 ≥ 55296 then (if t337 ≤ 57343 then (some (-1)) else (some (wrap64 ((wrap64 (x1 + 2)) + x8)))) else (some (wrap64 ((wrap64 (x1 + 2)) + x8))))))))
def quoinref26_escape.j0 : Nat → ByteArray → Int → Int → Bool → Option (Int)
 | 0, _, _, _, _ => none
 | k + 1, x0, x1, x7, x14 => if x14 = true then (some (wrap64 (x1 + 2))) else (if x7 ≥ 48 then (if x7 ≤ 51 then ((quoinref26_at.f x0 (wrap64 (x1 + 2))).bind fun t331 => ((quoinref26_is.f k t331 8).bind fun t332 => (if t332 = true then ((quoinref26_at.f x0 (wrap64 (x1 + 3))).bind fun t333 => ((quoinref26_is.f k t333 8).bind fun t334 => (quoinref26_escape.j1 k x0 x1 x7 t334))) else (quoinref26_escape.j1 k x0 x1 x7 false)))) else (quoinref26_escape.j1 k x0 x1 x7 false)) else (quoinref26_escape.j1 k x0 x1 x7 false))
def quoinref26_escape.j1 : Nat → ByteArray → Int → Int → Bool → Option (Int)
 | 0, _, _, _, _ => none
 | k + 1, x0, x1, x7, x52 => if x52 = true then (some (wrap64 (x1 + 4))) else (if x7 = 120 then ((quoinref26_hexed.f k x0 (wrap64 (x1 + 2)) 2).bind fun t335 => (if t335 ≥ 0 then (some (wrap64 (x1 + 4))) else (quoinref26_escape.j2 k x0 x1 x7))) else (quoinref26_escape.j2 k x0 x1 x7))
end
def quoinref26_escape.f (k : Nat) (a0 : ByteArray) (a1 : Int) (a2 : Int) : Option (Int) := (quoinref26_at.f a0 (wrap64 (a1 + 1))).bind fun t330 => (if t330 = 97 then (quoinref26_escape.j0 k a0 a1 t330 true) else (if t330 = 98 then (quoinref26_escape.j0 k a0 a1 t330 true) else (if t330 = 102 then (quoinref26_escape.j0 k a0 a1 t330 true) else (if t330 = 110 then (quoinref26_escape.j0 k a0 a1 t330 true) else (if t330 = 114 then (quoinref26_escape.j0 k a0 a1 t330 true) else (if t330 = 116 then (quoinref26_escape.j0 k a0 a1 t330 true) else (if t330 = 118 then (quoinref26_escape.j0 k a0 a1 t330 true) else (if t330 = 92 then (quoinref26_escape.j0 k a0 a1 t330 true) else (quoinref26_escape.j0 k a0 a1 t330 (t330 == a2))))))))))
set_option maxHeartbeats 8000000 in
set_option maxRecDepth 100000 in
theorem quoinref26_escape.calls {k : Nat} {a0 : ByteArray} {a1 : Int} {a2 : Int} {r : Int} {w : World} (h : quoinref26_escape.f k a0 a1 a2 = some r) :
  Calls Try.prog 100 #[.string a0, .int .i64 a1, .int .u8 a2] w fun e w' => e = .returned (.int .i64 r) ∧ Drawn0 w w' := by
 have H : ((quoinref26_at.f a0 (wrap64 (a1 + 1))).bind fun t330 => (if t330 = 97 then (quoinref26_escape.j0 k a0 a1 t330 true) else (if t330 = 98 then (quoinref26_escape.j0 k a0 a1 t330 true) else (if t330 = 102 then (quoinref26_escape.j0 k a0 a1 t330 true) else (if t330 = 110 then (quoinref26_escape.j0 k a0 a1 t330 true) else (if t330 = 114 then (quoinref26_escape.j0 k a0 a1 t330 true) else (if t330 = 116 then (quoinref26_escape.j0 k a0 a1 t330 true) else (if t330 = 118 then (quoinref26_escape.j0 k a0 a1 t330 true) else (if t330 = 92 then (quoinref26_escape.j0 k a0 a1 t330 true) else (quoinref26_escape.j0 k a0 a1 t330 (t330 == a2))))))))))) = some r := h
 clear h
 replace H := bS H
 obtain ⟨t330, A4, H⟩ := H
 try dsimp only at H
 have HC5 := Aside0.mk H
 clear H
 go_enter Try.func100, Try.ntmps100
 go_upto_block 0 with (first | (refine gR (some 13) Try.func50 (quoinref26_at.calls A4.out) (h := ?_); rintro _ ⟨nd, rfl⟩))
 (try simp only [Act.put, List.setIfInBounds_toArray, List.set_cons_zero, List.set_cons_succ])
 go_cut [] (fun wc => ∃ (kq : Nat), Aside0 (quoinref26_escape.j2 kq a0 a1 t330 = some r) ∧ Aside0 (kq ≤ k) ∧ Drawn0 w wc)
 case first =>
  have H := HC5.out
  clear HC5
  have HC6 := Aside0.mk H
  clear H
  go_upto_region 2 with (fail)
  go_cut [14] (fun v14 wc => ∃ (kq : Nat) (x14_5 : Bool), v14 = .bool x14_5 ∧ Aside0 (quoinref26_escape.j0 kq a0 a1 t330 x14_5 = some r) ∧ Aside0 (kq ≤ k) ∧ Drawn0 w wc)
  case first =>
   have H := HC6.out
   clear HC6
   by_cases c7 : t330 = 97
   ·rw [if_pos c7] at H
    have c7b0 := e1 c7
    have c7b1 := e2 c7
    clear c7
    (first | rw [c7b0] | (simp only [i64_w, i32_w]; rw [c7b0]) | skip)
    have H' := Aside0.mk H
    clear H
    go_wp2
    go_meet
    case rel => exact ⟨_, (true), Z1, H', ⟨Z26⟩, Z4⟩
   ·rw [if_neg c7] at H
    have c7b0 := e3 c7
    have c7b1 := e4 c7
    (first | rw [c7b0] | (simp only [i64_w, i32_w]; rw [c7b0]) | skip)
    by_cases c8 : t330 = 98
    ·rw [if_pos c8] at H
     have c8b0 := e1 c8
     have c8b1 := e2 c8
     clear c8
     have H' := Aside0.mk H
     clear H
     go_wp2
     go_meet
     case rel => exact ⟨_, (true), Z1, H', ⟨Z26⟩, Z4⟩
    ·rw [if_neg c8] at H
     have c8b0 := e3 c8
     have c8b1 := e4 c8
     by_cases c9 : t330 = 102
     ·rw [if_pos c9] at H
      have c9b0 := e1 c9
      have c9b1 := e2 c9
      clear c9
      have H' := Aside0.mk H
      clear H
      go_wp2
      go_meet
      case rel => exact ⟨_, (true), Z1, H', ⟨Z26⟩, Z4⟩
     ·rw [if_neg c9] at H
      have c9b0 := e3 c9
      have c9b1 := e4 c9
      by_cases c10 : t330 = 110
      ·rw [if_pos c10] at H
       have c10b0 := e1 c10
       have c10b1 := e2 c10
       clear c10
       have H' := Aside0.mk H
       clear H
       go_wp2
       go_meet
       case rel => exact ⟨_, (true), Z1, H', ⟨Z26⟩, Z4⟩
      ·rw [if_neg c10] at H
       have c10b0 := e3 c10
       have c10b1 := e4 c10
       by_cases c11 : t330 = 114
       ·rw [if_pos c11] at H
        have c11b0 := e1 c11
        have c11b1 := e2 c11
        clear c11
        have H' := Aside0.mk H
        clear H
        go_wp2
        go_meet
        case rel => exact ⟨_, (true), Z1, H', ⟨Z26⟩, Z4⟩
       ·rw [if_neg c11] at H
        have c11b0 := e3 c11
        have c11b1 := e4 c11
        by_cases c12 : t330 = 116
        ·rw [if_pos c12] at H
         have c12b0 := e1 c12
         have c12b1 := e2 c12
         clear c12
         have H' := Aside0.mk H
         clear H
         go_wp2
         go_meet
         case rel => exact ⟨_, (true), Z1, H', ⟨Z26⟩, Z4⟩
        ·rw [if_neg c12] at H
         have c12b0 := e3 c12
         have c12b1 := e4 c12
         by_cases c13 : t330 = 118
         ·rw [if_pos c13] at H
          have c13b0 := e1 c13
          have c13b1 := e2 c13
          clear c13
          have H' := Aside0.mk H
          clear H
          go_wp2
          go_meet
          case rel => exact ⟨_, (true), Z1, H', ⟨Z26⟩, Z4⟩
         ·rw [if_neg c13] at H
          have c13b0 := e3 c13
          have c13b1 := e4 c13
          by_cases c14 : t330 = 92
          ·rw [if_pos c14] at H
           have c14b0 := e1 c14
           have c14b1 := e2 c14
           clear c14
           have H' := Aside0.mk H
           clear H
           go_wp2
           go_meet
           case rel => exact ⟨_, (true), Z1, H', ⟨Z26⟩, Z4⟩
          ·rw [if_neg c14] at H
           have c14b0 := e3 c14
           have c14b1 := e4 c14
           have H' := Aside0.mk H
           clear H
           go_wp2
           go_meet
           case rel => exact ⟨_, ((t330 == a2)), Z1, H', ⟨Z26⟩, Z4⟩
  case rest =>
   clear HC6
   try clear c1
   try clear p2
   try clear c5
   try clear p6
   try clear c7
   try clear c7b0
   try clear c7b1
   try clear c8
   try clear c8b0
   try clear c8b1
   try clear c9
   try clear c9b0
   try clear c9b1
   try clear c10
   try clear c10b0
   try clear c10b1
   try clear c11
   try clear c11b0
   try clear c11b1
   try clear c12
   try clear c12b0
   try clear c12b1
   try clear c13
   try clear c13b0
   try clear c13b1
   try clear c14
   try clear c14b0
   try clear c14b1
   obtain ⟨kq, x14_5, rfl, HA, HJ5, ⟨mc5, rfl⟩⟩ := hcut
   cases kq with
   | zero => exact absurd HA.out (by simp [quoinref26_escape.j0])
   | succ kj5 =>
    have H := HA.out
    clear HA
    simp only [quoinref26_escape.j0] at H
    by_cases c15 : x14_5 = true
    ·subst c15
     have H1 : (some (wrap64 (a1 + 2))) = some r := by rw [if_pos rfl] at H; exact H
     clear H
     have H := H1
     clear H1
     obtain rfl := Option.some.inj H
     go_wp2
     go_ret
     exact ⟨Z1, Z4⟩
    ·replace c15 := Bool.eq_false_iff.mpr c15
     subst c15
     have H1 : (if t330 ≥ 48 then (if t330 ≤ 51 then ((quoinref26_at.f a0 (wrap64 (a1 + 2))).bind fun t331 => ((quoinref26_is.f kj5 t331 8).bind fun t332 => (if t332 = true then ((quoinref26_at.f a0 (wrap64 (a1 + 3))).bind fun t333 => ((quoinref26_is.f kj5 t333 8).bind fun t334 => (quoinref26_escape.j1 kj5 a0 a1 t330 t334))) else (quoinref26_escape.j1 kj5 a0 a1 t330 false)))) else (quoinref26_escape.j1 kj5 a0 a1 t330 false)) else (quoinref26_escape.j1 kj5 a0 a1 t330 false)) = some r := by rw [if_neg (show ¬ (false = true) by decide)] at H; exact H
     clear H
     have H := H1
     clear H1
     have HC16 := Aside0.mk H
     clear H
     go_upto_region 4 with (fail)
     go_cut [52] (fun v52 wc => ∃ (kq : Nat) (x52_15 : Bool), v52 = .bool x52_15 ∧ Aside0 (quoinref26_escape.j1 kq a0 a1 t330 x52_15 = some r) ∧ Aside0 (kq ≤ kj5) ∧ Drawn0 w wc)
     case first =>
      have H := HC16.out
      clear HC16
      by_cases c17 : t330 ≥ 48
      ·rw [if_pos c17] at H
       have c17b0 : decide (48 ≤ t330) = true := decide_eq_true c17
       clear c17
       (first | rw [c17b0] | (simp only [i64_w, i32_w]; rw [c17b0]) | skip)
       by_cases c18 : t330 ≤ 51
       ·rw [if_pos c18] at H
        have c18b0 := decide_eq_true c18
        clear c18
        replace H := bS H
        obtain ⟨t331, A19, H⟩ := H
        try dsimp only at H
        replace H := bS H
        obtain ⟨t332, A20, H⟩ := H
        try dsimp only at H
        by_cases c21 : t332 = true
        ·subst c21
         have H1 : ((quoinref26_at.f a0 (wrap64 (a1 + 3))).bind fun t333 => ((quoinref26_is.f kj5 t333 8).bind fun t334 => (quoinref26_escape.j1 kj5 a0 a1 t330 t334))) = some r := by rw [if_pos rfl] at H; exact H
         clear H
         have H := H1
         clear H1
         replace H := bS H
         obtain ⟨t333, A22, H⟩ := H
         try dsimp only at H
         replace H := bS H
         obtain ⟨t334, A23, H⟩ := H
         try dsimp only at H
         have H' := Aside0.mk H
         clear H
         go_wp2_with (first | (go_at_call 50; (with_reducible refine (quoinref26_at.calls A19.out).mono ?_); rintro e w' ⟨rfl, ⟨nd, rfl⟩⟩) | (go_at_call 79; (with_reducible refine (quoinref26_is.calls A20.out).mono ?_); rintro e w' ⟨rfl, ⟨nd, rfl⟩⟩) | (go_at_call 50; (with_reducible refine (quoinref26_at.calls A22.out).mono ?_); rintro e w' ⟨rfl, ⟨nd, rfl⟩⟩) | (go_at_call 79; (with_reducible refine (quoinref26_is.calls A23.out).mono ?_); rintro e w' ⟨rfl, ⟨nd, rfl⟩⟩))
         go_meet
         case rel => exact ⟨_, (t334), Z1, H', ⟨by have := HJ5.out; first | omega | exact Nat.le_refl _⟩, Z4⟩
        ·replace c21 := Bool.eq_false_iff.mpr c21
         subst c21
         have H1 : (quoinref26_escape.j1 kj5 a0 a1 t330 false) = some r := by rw [if_neg (show ¬ (false = true) by decide)] at H; exact H
         clear H
         have H := H1
         clear H1
         have H' := Aside0.mk H
         clear H
         go_wp2_with (first | (go_at_call 50; (with_reducible refine (quoinref26_at.calls A19.out).mono ?_); rintro e w' ⟨rfl, ⟨nd, rfl⟩⟩) | (go_at_call 79; (with_reducible refine (quoinref26_is.calls A20.out).mono ?_); rintro e w' ⟨rfl, ⟨nd, rfl⟩⟩))
         go_meet
         case rel => exact ⟨_, (false), Z1, H', ⟨by have := HJ5.out; first | omega | exact Nat.le_refl _⟩, Z4⟩
       ·rw [if_neg c18] at H
        have c18b0 := decide_eq_false c18
        clear c18
        have H' := Aside0.mk H
        clear H
        go_wp2
        go_meet
        case rel => exact ⟨_, (false), Z1, H', ⟨by have := HJ5.out; first | omega | exact Nat.le_refl _⟩, Z4⟩
      ·rw [if_neg c17] at H
       have c17b0 : decide (48 ≤ t330) = false := decide_eq_false c17
       clear c17
       (first | rw [c17b0] | (simp only [i64_w, i32_w]; rw [c17b0]) | skip)
       have H' := Aside0.mk H
       clear H
       go_wp2
       go_meet
       case rel => exact ⟨_, (false), Z1, H', ⟨by have := HJ5.out; first | omega | exact Nat.le_refl _⟩, Z4⟩
     case rest =>
      clear HC16
      try clear c1
      try clear c2
      try clear p2
      try clear c5
      try clear p6
      try clear c7
      try clear c7b0
      try clear c7b1
      try clear c8
      try clear c8b0
      try clear c8b1
      try clear c9
      try clear c9b0
      try clear c9b1
      try clear c10
      try clear c10b0
      try clear c10b1
      try clear c11
      try clear c11b0
      try clear c11b1
      try clear c12
      try clear c12b0
      try clear c12b1
      try clear c13
      try clear c13b0
      try clear c13b1
      try clear c14
      try clear c14b0
      try clear c14b1
      try clear c15
      try clear c17
      try clear c17b0
      try clear c18
      try clear c18b0
      try clear c21
      try clear p2
      try clear p6
      obtain ⟨kq, x52_15, rfl, HA, HJ15, ⟨mc15, rfl⟩⟩ := hcut
      cases kq with
      | zero => exact absurd HA.out (by simp [quoinref26_escape.j1])
      | succ kj15 =>
       have H := HA.out
       clear HA
       simp only [quoinref26_escape.j1] at H
       by_cases c24 : x52_15 = true
       ·subst c24
        have H1 : (some (wrap64 (a1 + 4))) = some r := by rw [if_pos rfl] at H; exact H
        clear H
        have H := H1
        clear H1
        obtain rfl := Option.some.inj H
        go_wp2
        go_ret
        exact ⟨Z1, Z4⟩
       ·replace c24 := Bool.eq_false_iff.mpr c24
        subst c24
        have H1 : (if t330 = 120 then ((quoinref26_hexed.f kj15 a0 (wrap64 (a1 + 2)) 2).bind fun t335 => (if t335 ≥ 0 then (some (wrap64 (a1 + 4))) else (quoinref26_escape.j2 kj15 a0 a1 t330))) else (quoinref26_escape.j2 kj15 a0 a1 t330)) = some r := by rw [if_neg (show ¬ (false = true) by decide)] at H; exact H
        clear H
        have H := H1
        clear H1
        by_cases c25 : t330 = 120
        ·rw [if_pos c25] at H
         have c25b0 := e1 c25
         have c25b1 := e2 c25
         clear c25
         replace H := bS H
         obtain ⟨t335, A26, H⟩ := H
         try dsimp only at H
         by_cases c27 : t335 ≥ 0
         ·rw [if_pos c27] at H
          have c27b0 : decide (0 ≤ t335) = true := decide_eq_true c27
          clear c27
          obtain rfl := Option.some.inj H
          go_wp2_with (first | (go_at_call 106; (with_reducible refine (quoinref26_hexed.calls A26.out).mono ?_); rintro e w' ⟨rfl, ⟨nd, rfl⟩⟩))
          go_ret
          exact ⟨Z1, Z4⟩
         ·rw [if_neg c27] at H
          have c27b0 : decide (0 ≤ t335) = false := decide_eq_false c27
          clear c27
          have H' := Aside0.mk H
          clear H
          go_wp2_with (first | (go_at_call 106; (with_reducible refine (quoinref26_hexed.calls A26.out).mono ?_); rintro e w' ⟨rfl, ⟨nd, rfl⟩⟩))
          go_meet
          case rel => exact ⟨_, H', ⟨by have := HJ5.out; have := HJ15.out; first | omega | exact Nat.le_refl _⟩, Z4⟩
        ·rw [if_neg c25] at H
         have c25b0 := e3 c25
         have c25b1 := e4 c25
         have H' := Aside0.mk H
         clear H
         go_wp2
         go_meet
         case rel => exact ⟨_, H', ⟨by have := HJ5.out; have := HJ15.out; first | omega | exact Nat.le_refl _⟩, Z4⟩
 case rest =>
  clear HC5
  try clear c1
  try clear c2
  try clear p2
  try clear c5
  try clear p6
  try clear c7
  try clear c7b0
  try clear c7b1
  try clear c8
  try clear c8b0
  try clear c8b1
  try clear c9
  try clear c9b0
  try clear c9b1
  try clear c10
  try clear c10b0
  try clear c10b1
  try clear c11
  try clear c11b0
  try clear c11b1
  try clear c12
  try clear c12b0
  try clear c12b1
  try clear c13
  try clear c13b0
  try clear c13b1
  try clear c14
  try clear c14b0
  try clear c14b1
  try clear c15
  try clear c17
  try clear c17b0
  try clear c18
  try clear c18b0
  try clear c21
  try clear c24
  try clear c25
  try clear c25b0
  try clear c25b1
  try clear c27
  try clear c27b0
  try clear p2
  try clear p6
  obtain ⟨kq, HA, HJ4, ⟨mc4, rfl⟩⟩ := hcut
  cases kq with
  | zero => exact absurd HA.out (by simp [quoinref26_escape.j2])
  | succ kj4 =>
   have H := HA.out
   clear HA
   simp only [quoinref26_escape.j2] at H
   have HC28 := Aside0.mk H
   clear H
   go_upto_if 88 with (fail)
   go_cut [8] (fun v8 wc => ∃ (kq : Nat) (x8_27 : Int), v8 = .int .i64 x8_27 ∧ Aside0 (quoinref26_escape.j3 kq a0 a1 t330 x8_27 = some r) ∧ Aside0 (kq ≤ kj4) ∧ Drawn0 w wc)
   case first =>
    have H := HC28.out
    clear HC28
    by_cases c29 : t330 = 117
    ·rw [if_pos c29] at H
     have c29b0 := e1 c29
     have c29b1 := e2 c29
     clear c29
     (first | rw [c29b0] | (simp only [i64_w, i32_w]; rw [c29b0]) | skip)
     have H' := Aside0.mk H
     clear H
     go_wp2
     go_meet
     case rel => exact ⟨_, (4), Z1, H', ⟨by have := HJ4.out; first | omega | exact Nat.le_refl _⟩, Z4⟩
    ·rw [if_neg c29] at H
     have c29b0 := e3 c29
     have c29b1 := e4 c29
     (first | rw [c29b0] | (simp only [i64_w, i32_w]; rw [c29b0]) | skip)
     have H' := Aside0.mk H
     clear H
     go_wp2
     go_meet
     case rel => exact ⟨_, (0), Z1, H', ⟨by have := HJ4.out; first | omega | exact Nat.le_refl _⟩, Z4⟩
   case rest =>
    clear HC28
    try clear c1
    try clear c2
    try clear p2
    try clear c4
    try clear c5
    try clear p6
    try clear c7
    try clear c7b0
    try clear c7b1
    try clear c8
    try clear c8b0
    try clear c8b1
    try clear c9
    try clear c9b0
    try clear c9b1
    try clear c10
    try clear c10b0
    try clear c10b1
    try clear c11
    try clear c11b0
    try clear c11b1
    try clear c12
    try clear c12b0
    try clear c12b1
    try clear c13
    try clear c13b0
    try clear c13b1
    try clear c14
    try clear c14b0
    try clear c14b1
    try clear c15
    try clear c17
    try clear c17b0
    try clear c18
    try clear c18b0
    try clear c21
    try clear c24
    try clear c25
    try clear c25b0
    try clear c25b1
    try clear c27
    try clear c27b0
    try clear c29
    try clear c29b0
    try clear c29b1
    try clear p2
    try clear p6
    obtain ⟨kq, x8_27, rfl, HA, HJ27, ⟨mc27, rfl⟩⟩ := hcut
    cases kq with
    | zero => exact absurd HA.out (by simp [quoinref26_escape.j3])
    | succ kj27 =>
     have H := HA.out
     clear HA
     simp only [quoinref26_escape.j3] at H
     by_cases c30 : t330 = 85
     ·rw [if_pos c30] at H
      have c30b0 := e1 c30
      have c30b1 := e2 c30
      clear c30
      replace H := bS H
      obtain ⟨t336, A31, H⟩ := H
      try dsimp only at H
      by_cases c32 : t336 < 0
      ·rw [if_pos c32] at H
       have c32b0 := decide_eq_true c32
       clear c32
       obtain rfl := Option.some.inj H
       go_wp2_with (first | (refine gR (some 95) Try.func106 (quoinref26_hexed.calls A31.out) (h := ?_); rintro _ ⟨nd, rfl⟩))
       go_ret
       exact ⟨Z1, Z4⟩
      ·rw [if_neg c32] at H
       have c32b0 := decide_eq_false c32
       clear c32
       by_cases c33 : t336 > 1114111
       ·rw [if_pos c33] at H
        have c33b0 : decide (1114111 < t336) = true := decide_eq_true c33
        clear c33
        obtain rfl := Option.some.inj H
        go_wp2_with (first | (refine gR (some 95) Try.func106 (quoinref26_hexed.calls A31.out) (h := ?_); rintro _ ⟨nd, rfl⟩))
        go_ret
        exact ⟨Z1, Z4⟩
       ·rw [if_neg c33] at H
        have c33b0 : decide (1114111 < t336) = false := decide_eq_false c33
        clear c33
        by_cases c34 : t336 ≥ 55296
        ·rw [if_pos c34] at H
         have c34b0 : decide (55296 ≤ t336) = true := decide_eq_true c34
         clear c34
         by_cases c35 : t336 ≤ 57343
         ·rw [if_pos c35] at H
          have c35b0 := decide_eq_true c35
          clear c35
          obtain rfl := Option.some.inj H
          go_wp2_with (first | (refine gR (some 95) Try.func106 (quoinref26_hexed.calls A31.out) (h := ?_); rintro _ ⟨nd, rfl⟩))
          go_ret
          exact ⟨Z1, Z4⟩
         ·rw [if_neg c35] at H
          have c35b0 := decide_eq_false c35
          clear c35
          obtain rfl := Option.some.inj H
          go_wp2_with (first | (refine gR (some 95) Try.func106 (quoinref26_hexed.calls A31.out) (h := ?_); rintro _ ⟨nd, rfl⟩))
          go_ret
          exact ⟨Z1, Z4⟩
        ·rw [if_neg c34] at H
         have c34b0 : decide (55296 ≤ t336) = false := decide_eq_false c34
         clear c34
         obtain rfl := Option.some.inj H
         go_wp2_with (first | (refine gR (some 95) Try.func106 (quoinref26_hexed.calls A31.out) (h := ?_); rintro _ ⟨nd, rfl⟩))
         go_ret
         exact ⟨Z1, Z4⟩
     ·rw [if_neg c30] at H
      have c30b0 := e3 c30
      have c30b1 := e4 c30
      replace H := bS H
      obtain ⟨t337, A36, H⟩ := H
      try dsimp only at H
      by_cases c37 : x8_27 = 0
      ·rw [if_pos c37] at H
       have c37b0 := e1 c37
       have c37b1 := e2 c37
       clear c37
       obtain rfl := Option.some.inj H
       go_wp2_with (first | (refine gR (some 95) Try.func106 (quoinref26_hexed.calls A36.out) (h := ?_); rintro _ ⟨nd, rfl⟩))
       go_ret
       exact ⟨Z1, Z4⟩
      ·rw [if_neg c37] at H
       have c37b0 := e3 c37
       have c37b1 := e4 c37
       by_cases c38 : t337 < 0
       ·rw [if_pos c38] at H
        have c38b0 := decide_eq_true c38
        clear c38
        obtain rfl := Option.some.inj H
        go_wp2_with (first | (refine gR (some 95) Try.func106 (quoinref26_hexed.calls A36.out) (h := ?_); rintro _ ⟨nd, rfl⟩))
        go_ret
        exact ⟨Z1, Z4⟩
       ·rw [if_neg c38] at H
        have c38b0 := decide_eq_false c38
        clear c38
        by_cases c39 : t337 > 1114111
        ·rw [if_pos c39] at H
         have c39b0 : decide (1114111 < t337) = true := decide_eq_true c39
         clear c39
         obtain rfl := Option.some.inj H
         go_wp2_with (first | (refine gR (some 95) Try.func106 (quoinref26_hexed.calls A36.out) (h := ?_); rintro _ ⟨nd, rfl⟩))
         go_ret
         exact ⟨Z1, Z4⟩
        ·rw [if_neg c39] at H
         have c39b0 : decide (1114111 < t337) = false := decide_eq_false c39
         clear c39
         by_cases c40 : t337 ≥ 55296
         ·rw [if_pos c40] at H
          have c40b0 : decide (55296 ≤ t337) = true := decide_eq_true c40
          clear c40
          by_cases c41 : t337 ≤ 57343
          ·rw [if_pos c41] at H
           have c41b0 := decide_eq_true c41
           clear c41
           obtain rfl := Option.some.inj H
           go_wp2_with (first | (refine gR (some 95) Try.func106 (quoinref26_hexed.calls A36.out) (h := ?_); rintro _ ⟨nd, rfl⟩))
           go_ret
           exact ⟨Z1, Z4⟩
          ·rw [if_neg c41] at H
           have c41b0 := decide_eq_false c41
           clear c41
           obtain rfl := Option.some.inj H
           go_wp2_with (first | (refine gR (some 95) Try.func106 (quoinref26_hexed.calls A36.out) (h := ?_); rintro _ ⟨nd, rfl⟩))
           go_ret
           exact ⟨Z1, Z4⟩
         ·rw [if_neg c40] at H
          have c40b0 : decide (55296 ≤ t337) = false := decide_eq_false c40
          clear c40
          obtain rfl := Option.some.inj H
          go_wp2_with (first | (refine gR (some 95) Try.func106 (quoinref26_hexed.calls A36.out) (h := ?_); rintro _ ⟨nd, rfl⟩))
          go_ret
          exact ⟨Z1, Z4⟩
def quoinref26_one.f (k : Nat) (a0 : ByteArray) (a1 : Int) (a2 : Int) : Option (Int) := (quoinref26_at.f a0 a1).bind fun t338 => (if t338 = 92 then ((quoinref26_escape.f k a0 a1 a2).bind fun t339 => (some t339)) else ((quoinref26_piece.f k a0 a1).bind fun bt340 => (if bt340.2 = 0 then (some (-1)) else (if bt340.1 = 10 then (some (-1)) else (if bt340.1 = (wrap32 (a2)) then (some (-1)) else (some (wrap64 (a1 + bt340.2))))))))
set_option maxHeartbeats 8000000 in
set_option maxRecDepth 100000 in
theorem quoinref26_one.calls {k : Nat} {a0 : ByteArray} {a1 : Int} {a2 : Int} {r : Int} {w : World} (h : quoinref26_one.f k a0 a1 a2 = some r) :
  Calls Try.prog 85 #[.string a0, .int .i64 a1, .int .u8 a2] w fun e w' => e = .returned (.int .i64 r) ∧ Below w.heap.size w w' := by
 have HB := Aside0.mk (Below.refl w.heap.size w)
 have H : ((quoinref26_at.f a0 a1).bind fun t338 => (if t338 = 92 then ((quoinref26_escape.f k a0 a1 a2).bind fun t339 => (some t339)) else ((quoinref26_piece.f k a0 a1).bind fun bt340 => (if bt340.2 = 0 then (some (-1)) else (if bt340.1 = 10 then (some (-1)) else (if bt340.1 = (wrap32 (a2)) then (some (-1)) else (some (wrap64 (a1 + bt340.2))))))))) = some r := h
 clear h
 replace H := bS H
 obtain ⟨t338, A4, H⟩ := H
 try dsimp only at H
 by_cases c5 : t338 = 92
 ·rw [if_pos c5] at H
  have c5b0 := e1 c5
  have c5b1 := e2 c5
  clear c5
  replace H := bS H
  obtain ⟨t339, A6, H⟩ := H
  try dsimp only at H
  obtain rfl := Option.some.inj H
  go_enter Try.func85, Try.ntmps85
  go_wp2_with (first | (refine gR (some 11) Try.func50 (quoinref26_at.calls A4.out) (h := ?_); rintro _ ⟨nd, rfl⟩) | (refine gR (some 16) Try.func100 (quoinref26_escape.calls A6.out) (h := ?_); rintro _ ⟨nd, rfl⟩))
  go_ret
  exact ⟨Z2, Z0⟩
 ·rw [if_neg c5] at H
  have c5b0 := e3 c5
  have c5b1 := e4 c5
  replace H := bS H
  obtain ⟨⟨t340, t341⟩, A7, H⟩ := H
  try dsimp only at H
  by_cases c8 : t341 = 0
  ·rw [if_pos c8] at H
   have c8b0 := e1 c8
   have c8b1 := e2 c8
   clear c8
   obtain rfl := Option.some.inj H
   go_enter Try.func85, Try.ntmps85
   go_wp2_with (first | (refine gR (some 11) Try.func50 (quoinref26_at.calls A4.out) (h := ?_); rintro _ ⟨nd, rfl⟩) | (refine gR (some 20) Try.func77 (quoinref26_piece.calls A7.out) (h := ?_); rintro w9 hb; replace HB := Aside0.mk (below_step zB hb); (try clear hb); (try clear hb2); (try clear hk); (try clear hi)))
   go_ret
   exact ⟨Z2, Z0⟩
  ·rw [if_neg c8] at H
   have c8b0 := e3 c8
   have c8b1 := e4 c8
   by_cases c10 : t340 = 10
   ·rw [if_pos c10] at H
    have c10b0 := e1 c10
    have c10b1 := e2 c10
    clear c10
    obtain rfl := Option.some.inj H
    go_enter Try.func85, Try.ntmps85
    go_wp2_with (first | (refine gR (some 11) Try.func50 (quoinref26_at.calls A4.out) (h := ?_); rintro _ ⟨nd, rfl⟩) | (refine gR (some 20) Try.func77 (quoinref26_piece.calls A7.out) (h := ?_); rintro w11 hb; replace HB := Aside0.mk (below_step zB hb); (try clear hb); (try clear hb2); (try clear hk); (try clear hi)))
    go_ret
    exact ⟨Z2, Z0⟩
   ·rw [if_neg c10] at H
    have c10b0 := e3 c10
    have c10b1 := e4 c10
    by_cases c12 : t340 = (wrap32 (a2))
    ·rw [if_pos c12] at H
     have c12b0 := e1 c12
     have c12b1 := e2 c12
     clear c12
     obtain rfl := Option.some.inj H
     go_enter Try.func85, Try.ntmps85
     go_wp2_with (first | (refine gR (some 11) Try.func50 (quoinref26_at.calls A4.out) (h := ?_); rintro _ ⟨nd, rfl⟩) | (refine gR (some 20) Try.func77 (quoinref26_piece.calls A7.out) (h := ?_); rintro w13 hb; replace HB := Aside0.mk (below_step zB hb); (try clear hb); (try clear hb2); (try clear hk); (try clear hi)))
     go_ret
     exact ⟨Z2, Z0⟩
    ·rw [if_neg c12] at H
     have c12b0 := e3 c12
     have c12b1 := e4 c12
     obtain rfl := Option.some.inj H
     go_enter Try.func85, Try.ntmps85
     go_wp2_with (first | (refine gR (some 11) Try.func50 (quoinref26_at.calls A4.out) (h := ?_); rintro _ ⟨nd, rfl⟩) | (refine gR (some 20) Try.func77 (quoinref26_piece.calls A7.out) (h := ?_); rintro w14 hb; replace HB := Aside0.mk (below_step zB hb); (try clear hb); (try clear hb2); (try clear hk); (try clear hi)))
     go_ret
     exact ⟨Z2, Z0⟩
def quoinref26_char.f (k : Nat) (a0 : ByteArray) (a1 : Int) : Option (Int) := (quoinref26_at.f a0 a1).bind fun t342 => (if t342 = 39 then ((quoinref26_one.f k a0 (wrap64 (a1 + 1)) 39).bind fun t343 => (if t343 < 0 then (some (-1)) else ((quoinref26_at.f a0 t343).bind fun t344 => (if t344 = 39 then (some (wrap64 (t343 + 1))) else (some (-1)))))) else (some (-1)))
set_option maxHeartbeats 8000000 in
set_option maxRecDepth 100000 in
theorem quoinref26_char.calls {k : Nat} {a0 : ByteArray} {a1 : Int} {r : Int} {w : World} (h : quoinref26_char.f k a0 a1 = some r) :
  Calls Try.prog 58 #[.string a0, .int .i64 a1] w fun e w' => e = .returned (.int .i64 r) ∧ Below w.heap.size w w' := by
 have HB := Aside0.mk (Below.refl w.heap.size w)
 have H : ((quoinref26_at.f a0 a1).bind fun t342 => (if t342 = 39 then ((quoinref26_one.f k a0 (wrap64 (a1 + 1)) 39).bind fun t343 => (if t343 < 0 then (some (-1)) else ((quoinref26_at.f a0 t343).bind fun t344 => (if t344 = 39 then (some (wrap64 (t343 + 1))) else (some (-1)))))) else (some (-1)))) = some r := h
 clear h
 replace H := bS H
 obtain ⟨t342, A3, H⟩ := H
 try dsimp only at H
 by_cases c4 : t342 = 39
 ·rw [if_pos c4] at H
  have c4b0 := e1 c4
  have c4b1 := e2 c4
  clear c4
  replace H := bS H
  obtain ⟨t343, A5, H⟩ := H
  try dsimp only at H
  by_cases c6 : t343 < 0
  ·rw [if_pos c6] at H
   have c6b0 := decide_eq_true c6
   clear c6
   obtain rfl := Option.some.inj H
   go_enter Try.func58, Try.ntmps58
   go_wp2_with (first | (refine gR (some 8) Try.func50 (quoinref26_at.calls A3.out) (h := ?_); rintro _ ⟨nd, rfl⟩) | (refine gR (some 13) Try.func85 (quoinref26_one.calls A5.out) (h := ?_); rintro w7 hb; replace HB := Aside0.mk (below_step zB hb); (try clear hb); (try clear hb2); (try clear hk); (try clear hi)))
   go_ret
   exact ⟨Z2, Z0⟩
  ·rw [if_neg c6] at H
   have c6b0 := decide_eq_false c6
   clear c6
   replace H := bS H
   obtain ⟨t344, A8, H⟩ := H
   try dsimp only at H
   by_cases c9 : t344 = 39
   ·rw [if_pos c9] at H
    have c9b0 := e1 c9
    have c9b1 := e2 c9
    clear c9
    obtain rfl := Option.some.inj H
    go_enter Try.func58, Try.ntmps58
    go_wp2_with (first | (refine gR (some 8) Try.func50 (quoinref26_at.calls A3.out) (h := ?_); rintro _ ⟨nd, rfl⟩) | (refine gR (some 13) Try.func85 (quoinref26_one.calls A5.out) (h := ?_); rintro w10 hb; replace HB := Aside0.mk (below_step zB hb); (try clear hb); (try clear hb2); (try clear hk); (try clear hi)) | (go_at_call 50; (with_reducible refine (quoinref26_at.calls A8.out).mono ?_); rintro e w' ⟨rfl, ⟨nd, rfl⟩⟩))
    go_ret
    exact ⟨Z2, Z0⟩
   ·rw [if_neg c9] at H
    have c9b0 := e3 c9
    have c9b1 := e4 c9
    obtain rfl := Option.some.inj H
    go_enter Try.func58, Try.ntmps58
    go_wp2_with (first | (refine gR (some 8) Try.func50 (quoinref26_at.calls A3.out) (h := ?_); rintro _ ⟨nd, rfl⟩) | (refine gR (some 13) Try.func85 (quoinref26_one.calls A5.out) (h := ?_); rintro w11 hb; replace HB := Aside0.mk (below_step zB hb); (try clear hb); (try clear hb2); (try clear hk); (try clear hi)) | (go_at_call 50; (with_reducible refine (quoinref26_at.calls A8.out).mono ?_); rintro e w' ⟨rfl, ⟨nd, rfl⟩⟩))
    go_ret
    exact ⟨Z2, Z0⟩
 ·rw [if_neg c4] at H
  have c4b0 := e3 c4
  have c4b1 := e4 c4
  obtain rfl := Option.some.inj H
  go_enter Try.func58, Try.ntmps58
  go_wp2_with (first | (refine gR (some 8) Try.func50 (quoinref26_at.calls A3.out) (h := ?_); rintro _ ⟨nd, rfl⟩))
  go_ret
  exact ⟨Z2, Z0⟩
mutual
def quoinref26_quoted.l0 : Nat → ByteArray → Int → Option (Int)
 | 0, _, _ => none
 | k + 1, x0, x1 => (quoinref26_at.f x0 x1).bind fun t346 => (if t346 = 34 then (some (wrap64 (x1 + 1))) else ((quoinref26_one.f k x0 x1 34).bind fun t347 => (if t347 < 0 then (some (-1)) else (quoinref26_quoted.l0 k x0 t347))))
def quoinref26_quoted.l1 : Nat → ByteArray → Int → Option (Int)
 | 0, _, _ => none
 | k + 1, x0, x1 => (quoinref26_at.f x0 x1).bind fun t348 => (if t348 = 96 then (some (wrap64 (x1 + 1))) else ((quoinref26_piece.f k x0 x1).bind fun bt349 => (if bt349.2 = 0 then (some (-1)) else (quoinref26_quoted.l1 k x0 (wrap64 (x1 + bt349.2))))))
end
def quoinref26_quoted.f (k : Nat) (a0 : ByteArray) (a1 : Int) : Option (Int) := (quoinref26_at.f a0 a1).bind fun t345 => (if t345 = 34 then (quoinref26_quoted.l0 k a0 (wrap64 (a1 + 1))) else (if t345 = 96 then (quoinref26_quoted.l1 k a0 (wrap64 (a1 + 1))) else (some (-1))))
set_option maxHeartbeats 8000000 in
set_option maxRecDepth 100000 in
theorem quoinref26_quoted.calls {k : Nat} {a0 : ByteArray} {a1 : Int} {r : Int} {w : World} (h : quoinref26_quoted.f k a0 a1 = some r) :
  Calls Try.prog 59 #[.string a0, .int .i64 a1] w fun e w' => e = .returned (.int .i64 r) ∧ Below w.heap.size w w' := by
 have HB := Aside0.mk (Below.refl w.heap.size w)
 have H : ((quoinref26_at.f a0 a1).bind fun t345 => (if t345 = 34 then (quoinref26_quoted.l0 k a0 (wrap64 (a1 + 1))) else (if t345 = 96 then (quoinref26_quoted.l1 k a0 (wrap64 (a1 + 1))) else (some (-1))))) = some r := h
 clear h
 replace H := bS H
 obtain ⟨t345, A3, H⟩ := H
 try dsimp only at H
 by_cases c4 : t345 = 34
 ·rw [if_pos c4] at H
  have c4b0 := e1 c4
  have c4b1 := e2 c4
  clear c4
  have H' := Aside0.mk H
  clear H
  go_enter Try.func59, Try.ntmps59
  go_wp2_with (first | (refine gR (some 9) Try.func50 (quoinref26_at.calls A3.out) (h := ?_); rintro _ ⟨nd, rfl⟩))
  go_loopg [1] k (fun kq v1 w' => ∃ (x1_1 : Int), v1 = .int .i64 x1_1 ∧ Aside0 (quoinref26_quoted.l0 kq a0 x1_1 = some r) ∧ Aside0 (kq ≤ k) ∧ Aside0 (Below w.heap.size w w'))
  case atStart => exact ⟨(wrap64 (a1 + 1)), Z1, H', ⟨Nat.le_refl _⟩, ⟨Z0⟩⟩
  case round =>
   clear H'
   try clear p2
   try clear c4
   try clear c4b0
   try clear c4b1
   obtain ⟨x1_1, rfl, HA, HK1, HB⟩ := hrel
   cases gk with
   | zero => exact absurd HA.out (by simp [quoinref26_quoted.l0])
   | succ k1 =>
    have H := HA.out
    clear HA
    simp only [quoinref26_quoted.l0] at H
    replace H := bS H
    obtain ⟨t346, A5, H⟩ := H
    try dsimp only at H
    by_cases c6 : t346 = 34
    ·rw [if_pos c6] at H
     have c6b0 := e1 c6
     have c6b1 := e2 c6
     clear c6
     obtain rfl := Option.some.inj H
     go_wp2_with (first | (refine gR (some 16) Try.func50 (quoinref26_at.calls A5.out) (h := ?_); rintro _ ⟨nd, rfl⟩))
     go_ret
     exact ⟨Z2, Z0⟩
    ·rw [if_neg c6] at H
     have c6b0 := e3 c6
     have c6b1 := e4 c6
     replace H := bS H
     obtain ⟨t347, A7, H⟩ := H
     try dsimp only at H
     by_cases c8 : t347 < 0
     ·rw [if_pos c8] at H
      have c8b0 := decide_eq_true c8
      clear c8
      obtain rfl := Option.some.inj H
      go_wp2_with (first | (refine gR (some 16) Try.func50 (quoinref26_at.calls A5.out) (h := ?_); rintro _ ⟨nd, rfl⟩) | (refine gR (some 20) Try.func85 (quoinref26_one.calls A7.out) (h := ?_); rintro w9 hb; replace HB := Aside0.mk (below_step zB hb); (try clear hb); (try clear hb2); (try clear hk); (try clear hi)))
      go_ret
      exact ⟨Z2, Z0⟩
     ·rw [if_neg c8] at H
      have c8b0 := decide_eq_false c8
      clear c8
      have H' := Aside0.mk H
      clear H
      go_wp2_with (first | (refine gR (some 16) Try.func50 (quoinref26_at.calls A5.out) (h := ?_); rintro _ ⟨nd, rfl⟩) | (refine gR (some 20) Try.func85 (quoinref26_one.calls A7.out) (h := ?_); rintro w10 hb; replace HB := Aside0.mk (below_step zB hb); (try clear hb); (try clear hb2); (try clear hk); (try clear hi)))
      go_roundg k1
      case measure => have := HK1.out; omega
      case rel => exact ⟨(t347), Z1, H', ⟨Z36⟩, ⟨Z0⟩⟩
 ·rw [if_neg c4] at H
  have c4b0 := e3 c4
  have c4b1 := e4 c4
  by_cases c11 : t345 = 96
  ·rw [if_pos c11] at H
   have c11b0 := e1 c11
   have c11b1 := e2 c11
   clear c11
   have H' := Aside0.mk H
   clear H
   go_enter Try.func59, Try.ntmps59
   go_wp2_with (first | (refine gR (some 9) Try.func50 (quoinref26_at.calls A3.out) (h := ?_); rintro _ ⟨nd, rfl⟩))
   go_loopg [1] k (fun kq v1 w' => ∃ (x1_1 : Int), v1 = .int .i64 x1_1 ∧ Aside0 (quoinref26_quoted.l1 kq a0 x1_1 = some r) ∧ Aside0 (kq ≤ k) ∧ Aside0 (Below w.heap.size w w'))
   case atStart => exact ⟨(wrap64 (a1 + 1)), Z1, H', ⟨Nat.le_refl _⟩, ⟨Z0⟩⟩
   case round =>
    clear H'
    try clear c1
    try clear p2
    try clear c4
    try clear c4b0
    try clear c4b1
    try clear c5
    try clear c6
    try clear c6b0
    try clear c6b1
    try clear p6
    try clear c8
    try clear c8b0
    try clear c11
    try clear c11b0
    try clear c11b1
    try clear p2
    obtain ⟨x1_1, rfl, HA, HK1, HB⟩ := hrel
    cases gk with
    | zero => exact absurd HA.out (by simp [quoinref26_quoted.l1])
    | succ k1 =>
     have H := HA.out
     clear HA
     simp only [quoinref26_quoted.l1] at H
     replace H := bS H
     obtain ⟨t348, A12, H⟩ := H
     try dsimp only at H
     by_cases c13 : t348 = 96
     ·rw [if_pos c13] at H
      have c13b0 := e1 c13
      have c13b1 := e2 c13
      clear c13
      obtain rfl := Option.some.inj H
      go_wp2_with (first | (refine gR (some 31) Try.func50 (quoinref26_at.calls A12.out) (h := ?_); rintro _ ⟨nd, rfl⟩))
      go_ret
      exact ⟨Z2, Z0⟩
     ·rw [if_neg c13] at H
      have c13b0 := e3 c13
      have c13b1 := e4 c13
      replace H := bS H
      obtain ⟨⟨t349, t350⟩, A14, H⟩ := H
      try dsimp only at H
      by_cases c15 : t350 = 0
      ·rw [if_pos c15] at H
       have c15b0 := e1 c15
       have c15b1 := e2 c15
       clear c15
       obtain rfl := Option.some.inj H
       go_wp2_with (first | (refine gR (some 31) Try.func50 (quoinref26_at.calls A12.out) (h := ?_); rintro _ ⟨nd, rfl⟩) | (refine gR (some 36) Try.func77 (quoinref26_piece.calls A14.out) (h := ?_); rintro w16 hb; replace HB := Aside0.mk (below_step zB hb); (try clear hb); (try clear hb2); (try clear hk); (try clear hi)))
       go_ret
       exact ⟨Z2, Z0⟩
      ·rw [if_neg c15] at H
       have c15b0 := e3 c15
       have c15b1 := e4 c15
       have H' := Aside0.mk H
       clear H
       go_wp2_with (first | (refine gR (some 31) Try.func50 (quoinref26_at.calls A12.out) (h := ?_); rintro _ ⟨nd, rfl⟩) | (refine gR (some 36) Try.func77 (quoinref26_piece.calls A14.out) (h := ?_); rintro w17 hb; replace HB := Aside0.mk (below_step zB hb); (try clear hb); (try clear hb2); (try clear hk); (try clear hi)))
       go_roundg k1
       case measure => have := HK1.out; omega
       case rel => exact ⟨(wrap64 (x1_1 + t350)), Z1, H', ⟨Z36⟩, ⟨Z0⟩⟩
  ·rw [if_neg c11] at H
   have c11b0 := e3 c11
   have c11b1 := e4 c11
   obtain rfl := Option.some.inj H
   go_enter Try.func59, Try.ntmps59
   go_wp2_with (first | (refine gR (some 9) Try.func50 (quoinref26_at.calls A3.out) (h := ?_); rintro _ ⟨nd, rfl⟩))
   go_ret
   exact ⟨Z2, Z0⟩
end Go.Proofs.Ytcajiapjdlphmaa.H
