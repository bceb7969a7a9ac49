import Derived.Test.YtcajiapjdlphmaaEPre
import Derived.Test.YtcajiapjdlphmaaEabcdefx0
import Derived.Test.YtcajiapjdlphmaaEabcdefx1
namespace Go.Proofs.Ytcajiapjdlphmaa.H
open Go.RowKit Go.Proofs.YtcajiapjdlphmaaW.PrintWords Go.Proofs.YtcajiapjdlphmaaW.PrintLast Go.Proofs.YtcajiapjdlphmaaW.PrintMore
attribute [local go_sem] max2_int min2_int max_two min_two max_three min_three max_four min_four
set_option linter.unusedVariables false
set_option linter.unusedSimpArgs false
mutual
def goscan_brokenForm.j0 : Nat → ByteArray → Int → Int → Int → Bool → Option (Int)
 | 0, _, _, _, _, _ => none
 | k + 1, x0, x1, x5, x6, x18 => if x18 = true then ((goscan_number.f k x0 (wrap64 (x6 + 1)) 10).bind fun t178 => (goscan_brokenForm.j1 k x0 x1 (mx (wrap64 (x6 + 1)) t178) x6)) else (if x6 < 0 then ((goscan_at.f x0 x1).bind fun t179 => (if t179 = 46 then ((goscan_number.f k x0 (wrap64 (x1 + 1)) 10).bind fun t180 => (goscan_brokenForm.j1 k x0 x1 t180 x6)) else (goscan_brokenForm.j1 k x0 x1 x5 x6))) else (goscan_brokenForm.j1 k x0 x1 x5 x6))
def goscan_brokenForm.j1 : Nat → ByteArray → Int → Int → Int → Option (Int)
 | 0, _, _, _, _ => none
 | k + 1, x0, x1, x5, x6 => if (mx x6 x5) ≥ 0 then ((goscan_powerForm.f k x0 (mx x6 x5) 101 69).bind fun t181 => ((goscan_hexForm.f k x0 x1).bind fun t182 => (some (mx (mx x5 t181) t182)))) else ((goscan_hexForm.f k x0 x1).bind fun t183 => (some (mx x5 t183)))
end
def goscan_brokenForm.f (k : Nat) (a0 : ByteArray) (a1 : Int) : Option (Int) := (goscan_number.f k a0 a1 10).bind fun t176 => (if t176 ≥ 0 then ((goscan_at.f a0 t176).bind fun t177 => (goscan_brokenForm.j0 k a0 a1 (-1) t176 (t177 == 46))) else (goscan_brokenForm.j0 k a0 a1 (-1) t176 false))
theorem goscan_brokenForm.mono_l : ∀ k, (∀ y0 y1 y2 y3 y4, LeO (goscan_brokenForm.j0 k y0 y1 y2 y3 y4) (goscan_brokenForm.j0 (k + 1) y0 y1 y2 y3 y4)) ∧ (∀ y0 y1 y2 y3, LeO (goscan_brokenForm.j1 k y0 y1 y2 y3) (goscan_brokenForm.j1 (k + 1) y0 y1 y2 y3))
 | 0 => ⟨fun _ _ _ _ _ r h => by simp [goscan_brokenForm.j0] at h, fun _ _ _ _ r h => by simp [goscan_brokenForm.j1] at h⟩
 | k + 1 => by
  obtain ⟨ih0, ih1⟩ := goscan_brokenForm.mono_l k
  refine ⟨?_, ?_⟩
  ·intro y0 y1 y2 y3 y4
   unfold goscan_brokenForm.j0
   have m0 := @goscan_hexForm.mono
   have m1 := @goscan_number.mono
   have m2 := @goscan_powerForm.mono
   exact mO
  ·intro y0 y1 y2 y3
   unfold goscan_brokenForm.j1
   have m0 := @goscan_hexForm.mono
   have m1 := @goscan_number.mono
   have m2 := @goscan_powerForm.mono
   exact mO
theorem goscan_brokenForm.mono : ∀ a0 a1 k, LeO (goscan_brokenForm.f k a0 a1) (goscan_brokenForm.f (k + 1) a0 a1) := by
 intro a0 a1 k
 obtain ⟨ih0, ih1⟩ := goscan_brokenForm.mono_l k
 unfold goscan_brokenForm.f
 have m0 := @goscan_hexForm.mono
 have m1 := @goscan_number.mono
 have m2 := @goscan_powerForm.mono
 exact mO
set_option maxHeartbeats 8000000 in
set_option maxRecDepth 100000 in
theorem goscan_brokenForm.calls {k : Nat} {a0 : ByteArray} {a1 : Int} {r : Int} {w : World} (h : goscan_brokenForm.f k a0 a1 = some r) :
  Calls Try.prog 73 #[.string a0, .int .i64 a1] w fun e w' => e = .returned (.int .i64 r) ∧ Below w.heap.size w w' := by
 have HB := Aside0.mk (Below.refl w.heap.size w)
 have H : ((goscan_number.f k a0 a1 10).bind fun t176 => (if t176 ≥ 0 then ((goscan_at.f a0 t176).bind fun t177 => (goscan_brokenForm.j0 k a0 a1 (-1) t176 (t177 == 46))) else (goscan_brokenForm.j0 k a0 a1 (-1) t176 false))) = some r := h
 clear h
 replace H := bS H
 obtain ⟨t176, A3, H⟩ := H
 try dsimp only at H
 have HC4 := Aside0.mk H
 clear H
 go_enter Try.func73, Try.ntmps73
 go_upto_region 3 with (first | (refine gR (some 10) Try.func96 (goscan_number.calls A3.out) (h := ?_); rintro _ ⟨nd, rfl⟩))
 (try simp only [Act.put, List.setIfInBounds_toArray, List.set_cons_zero, List.set_cons_succ])
 go_cut [18] (fun v18 wc => ∃ (kq : Nat) (x18_3 : Bool), v18 = .bool x18_3 ∧ Aside0 (goscan_brokenForm.j0 kq a0 a1 (-1) t176 x18_3 = some r) ∧ Aside0 (kq ≤ k) ∧ Aside0 (Below w.heap.size w wc))
 case first =>
  have H := HC4.out
  clear HC4
  by_cases c5 : t176 ≥ 0
  ·rw [if_pos c5] at H
   have c5b0 : decide (0 ≤ t176) = true := decide_eq_true c5
   clear c5
   (first | rw [c5b0] | (simp only [i64_w, i32_w]; rw [c5b0]) | skip)
   replace H := bS H
   obtain ⟨t177, A6, H⟩ := H
   try dsimp only at H
   have H' := Aside0.mk H
   clear H
   go_wp2_with (first | (go_at_call 90; (with_reducible refine (goscan_at.calls A6.out).mono ?_); rintro e w' ⟨rfl, ⟨nd, rfl⟩⟩))
   go_meet
   case rel => exact ⟨_, ((t177 == 46)), Z1, H', ⟨Z26⟩, ⟨Z0⟩⟩
  ·rw [if_neg c5] at H
   have c5b0 : decide (0 ≤ t176) = false := decide_eq_false c5
   clear c5
   (first | rw [c5b0] | (simp only [i64_w, i32_w]; rw [c5b0]) | skip)
   have H' := Aside0.mk H
   clear H
   go_wp2
   go_meet
   case rel => exact ⟨_, (false), Z1, H', ⟨Z26⟩, ⟨Z0⟩⟩
 case rest =>
  clear HC4
  try clear p2
  try clear c5
  try clear c5b0
  obtain ⟨kq, x18_3, rfl, HA, HJ3, HB⟩ := hcut
  cases kq with
  | zero => exact absurd HA.out (by simp [goscan_brokenForm.j0])
  | succ kj3 =>
   have H := HA.out
   clear HA
   simp only [goscan_brokenForm.j0] at H
   have HC7 := Aside0.mk H
   clear H
   go_upto_if 18 with (fail)
   go_cut [5] (fun v5 wc => ∃ (kq : Nat) (x5_6 : Int), v5 = .int .i64 x5_6 ∧ Aside0 (goscan_brokenForm.j1 kq a0 a1 x5_6 t176 = some r) ∧ Aside0 (kq ≤ kj3) ∧ Aside0 (Below w.heap.size w wc))
   case first =>
    have H := HC7.out
    clear HC7
    by_cases c8 : x18_3 = true
    ·subst c8
     have H1 : ((goscan_number.f kj3 a0 (wrap64 (t176 + 1)) 10).bind fun t178 => (goscan_brokenForm.j1 kj3 a0 a1 (mx (wrap64 (t176 + 1)) t178) t176)) = some r := by rw [if_pos rfl] at H; exact H
     clear H
     have H := H1
     clear H1
     replace H := bS H
     obtain ⟨t178, A9, H⟩ := H
     try dsimp only at H
     obtain ⟨ji10, hji10⟩ : ∃ j_ : Int, (mx (wrap64 (t176 + 1)) t178) = j_ := ⟨_, rfl⟩
     replace H : (goscan_brokenForm.j1 kj3 a0 a1 ji10 t176) = some r := by first | (rw [hji10] at H; exact H) | (simp only [hji10] at H ⊢; exact H)
     (try rw [hji10] at A9)
     have hji10_ : (if (wrap64 (t176 + 1)) < t178 then t178 else (wrap64 (t176 + 1))) = ji10 := hji10
     have H' := Aside0.mk H
     clear H
     go_wp2_with (first | (refine gR (some 24) Try.func96 (goscan_number.calls A9.out) (h := ?_); rintro _ ⟨nd, rfl⟩))
     go_meet
     case rel => exact ⟨_, (ji10), (by first | rfl | (simp; done) | (simp only [← hji10] <;> (first | rfl | (simp; done))) | (simp only [← hji10] <;> rw [u32_tmod]) | (simp only [← hji10] <;> simp <;> omega) | (simp [*]; done) | (simp <;> omega) | rw [u32_tmod]), H', ⟨Z73⟩, ⟨Z0⟩⟩
    ·replace c8 := Bool.eq_false_iff.mpr c8
     subst c8
     have H1 : (if t176 < 0 then ((goscan_at.f a0 a1).bind fun t179 => (if t179 = 46 then ((goscan_number.f kj3 a0 (wrap64 (a1 + 1)) 10).bind fun t180 => (goscan_brokenForm.j1 kj3 a0 a1 t180 t176)) else (goscan_brokenForm.j1 kj3 a0 a1 (-1) t176))) else (goscan_brokenForm.j1 kj3 a0 a1 (-1) t176)) = some r := by rw [if_neg (show ¬ (false = true) by decide)] at H; exact H
     clear H
     have H := H1
     clear H1
     by_cases c11 : t176 < 0
     ·rw [if_pos c11] at H
      have c11b0 := decide_eq_true c11
      clear c11
      (first | rw [c11b0] | (simp only [i64_w, i32_w]; rw [c11b0]) | skip)
      replace H := bS H
      obtain ⟨t179, A12, H⟩ := H
      try dsimp only at H
      by_cases c13 : t179 = 46
      ·rw [if_pos c13] at H
       have c13b0 := e1 c13
       have c13b1 := e2 c13
       clear c13
       replace H := bS H
       obtain ⟨t180, A14, H⟩ := H
       try dsimp only at H
       have H' := Aside0.mk H
       clear H
       go_wp2_with (first | (go_at_call 90; (with_reducible refine (goscan_at.calls A12.out).mono ?_); rintro e w' ⟨rfl, ⟨nd, rfl⟩⟩) | (refine gR (some 37) Try.func96 (goscan_number.calls A14.out) (h := ?_); rintro _ ⟨nd, rfl⟩))
       go_meet
       case rel => exact ⟨_, (t180), Z1, H', ⟨Z73⟩, ⟨Z0⟩⟩
      ·rw [if_neg c13] at H
       have c13b0 := e3 c13
       have c13b1 := e4 c13
       have H' := Aside0.mk H
       clear H
       go_wp2_with (first | (go_at_call 90; (with_reducible refine (goscan_at.calls A12.out).mono ?_); rintro e w' ⟨rfl, ⟨nd, rfl⟩⟩))
       go_meet
       case rel => exact ⟨_, ((-1)), Z1, H', ⟨Z73⟩, ⟨Z0⟩⟩
     ·rw [if_neg c11] at H
      have c11b0 := decide_eq_false c11
      clear c11
      (first | rw [c11b0] | (simp only [i64_w, i32_w]; rw [c11b0]) | skip)
      have H' := Aside0.mk H
      clear H
      go_wp2
      go_meet
      case rel => exact ⟨_, ((-1)), Z1, H', ⟨Z73⟩, ⟨Z0⟩⟩
   case rest =>
    clear HC7
    try clear c1
    try clear p2
    try clear c5
    try clear c5b0
    try clear p6
    try clear c7
    try clear c8
    try clear c9
    try clear c11
    try clear c11b0
    try clear c13
    try clear c13b0
    try clear c13b1
    try clear p2
    obtain ⟨kq, x5_6, rfl, HA, HJ6, HB⟩ := hcut
    cases kq with
    | zero => exact absurd HA.out (by simp [goscan_brokenForm.j1])
    | succ kj6 =>
     have H := HA.out
     clear HA
     simp only [goscan_brokenForm.j1] at H
     obtain ⟨ji15, hji15⟩ : ∃ j_ : Int, (mx t176 x5_6) = j_ := ⟨_, rfl⟩
     replace H : (if (ji15) ≥ 0 then ((goscan_powerForm.f kj6 a0 (ji15) 101 69).bind fun t181 => ((goscan_hexForm.f kj6 a0 a1).bind fun t182 => (some (mx (mx x5_6 t181) t182)))) else ((goscan_hexForm.f kj6 a0 a1).bind fun t183 => (some (mx x5_6 t183)))) = some r := by first | (rw [hji15] at H; exact H) | (simp only [hji15] at H ⊢; exact H)
     have hji15_ : (if t176 < x5_6 then x5_6 else t176) = ji15 := hji15
     by_cases c16 : (ji15) ≥ 0
     ·rw [if_pos c16] at H
      have c16b0 : decide (0 ≤ (ji15)) = true := decide_eq_true c16
      clear c16
      replace H := bS H
      obtain ⟨t181, A17, H⟩ := H
      try dsimp only at H
      obtain ⟨ji18, hji18⟩ : ∃ j_ : Int, (mx x5_6 t181) = j_ := ⟨_, rfl⟩
      replace H : ((goscan_hexForm.f kj6 a0 a1).bind fun t182 => (some (mx (ji18) t182))) = some r := by first | (rw [hji18] at H; exact H) | (simp only [hji18] at H ⊢; exact H)
      (try rw [hji18] at A17)
      have hji18_ : (if x5_6 < t181 then t181 else x5_6) = ji18 := hji18
      replace H := bS H
      obtain ⟨t182, A19, H⟩ := H
      try dsimp only at H
      obtain ⟨ji20, hji20⟩ : ∃ j_ : Int, (mx (ji18) t182) = j_ := ⟨_, rfl⟩
      replace H : (some ji20) = some r := by first | (rw [hji20] at H; exact H) | (simp only [hji20] at H ⊢; exact H)
      (try rw [hji20] at A17)
      (try rw [hji20] at A19)
      have hji20_ : (if (ji18) < t182 then t182 else (ji18)) = ji20 := hji20
      obtain rfl := Option.some.inj H
      go_wp2_with (first | ((with_reducible refine gC 97 rfl ?_); refine goesL_ (some 46) rfl rfl Try.func97 Z5 rfl #[.string a0, .int .i64 ji15, .int .u8 101, .int .u8 69] rfl (by (try simp only [List.map_toArray, List.map_cons, List.map_nil]); first | done | (simp only [hji15]; rfl) | rfl | (simp only [List.length_drop, List.length_take]; rfl)) ?_; (with_reducible refine (goscan_powerForm.calls A17.out).mono ?_); rintro e w' ⟨rfl, ⟨nd, rfl⟩⟩; refine ⟨_, rfl, ?_⟩) | (refine gR (some 51) Try.func98 (goscan_hexForm.calls A19.out) (h := ?_); rintro w21 hb; replace HB := Aside0.mk (below_step zB hb); (try clear hb); (try clear hb2); (try clear hk); (try clear hi)))
      go_ret
      exact ⟨by first | rfl | (simp [errW_none, errW_some] <;> rfl) | (simp only [← hji15, ← hji18, ← hji20]; first | rfl | (simp [errW_none, errW_some] <;> rfl)) | (simp [*, errW_none, errW_some] <;> rfl), Z0⟩
     ·rw [if_neg c16] at H
      have c16b0 : decide (0 ≤ (ji15)) = false := decide_eq_false c16
      clear c16
      replace H := bS H
      obtain ⟨t183, A22, H⟩ := H
      try dsimp only at H
      obtain ⟨ji23, hji23⟩ : ∃ j_ : Int, (mx x5_6 t183) = j_ := ⟨_, rfl⟩
      replace H : (some ji23) = some r := by first | (rw [hji23] at H; exact H) | (simp only [hji23] at H ⊢; exact H)
      (try rw [hji23] at A22)
      have hji23_ : (if x5_6 < t183 then t183 else x5_6) = ji23 := hji23
      obtain rfl := Option.some.inj H
      go_wp2_with (first | (refine gR (some 51) Try.func98 (goscan_hexForm.calls A22.out) (h := ?_); rintro w24 hb; replace HB := Aside0.mk (below_step zB hb); (try clear hb); (try clear hb2); (try clear hk); (try clear hi)))
      go_ret
      exact ⟨by first | rfl | (simp [errW_none, errW_some] <;> rfl) | (simp only [← hji15, ← hji23]; first | rfl | (simp [errW_none, errW_some] <;> rfl)) | (simp [*, errW_none, errW_some] <;> rfl), Z0⟩
def goscan_imagForm.l0 : Nat → ByteArray → Int → Int → List Int → Int → Int → Option (Int)
 | 0, _, _, _, _, _, _ => none
 | k + 1, x0, x1, x5, x17, x18, x19 => if x19 < x18 then (if 0 ≤ x19 then (if x19 < (x17.length : Int) then (if (rd x17 x19) > x1 then ((goscan_at.f x0 (rd x17 x19)).bind fun t191 => (if t191 = 105 then (goscan_imagForm.l0 k x0 x1 (mx x5 (wrap64 ((rd x17 x19) + 1))) x17 x18 (wrap64 (x19 + 1))) else (goscan_imagForm.l0 k x0 x1 x5 x17 x18 (wrap64 (x19 + 1))))) else (goscan_imagForm.l0 k x0 x1 x5 x17 x18 (wrap64 (x19 + 1)))) else (none)) else (none)) else (some x5)
def goscan_imagForm.f (k : Nat) (a0 : ByteArray) (a1 : Int) : Option (Int) := (goscan_number.f k a0 a1 10).bind fun t184 => ((goscan_wholeForm.f k a0 a1).bind fun t185 => ((goscan_brokenForm.f k a0 a1).bind fun t186 => ((some (([t184, t185, t186] : List Int) : List Int)).bind fun y187 => (goscan_imagForm.l0 k a0 a1 (-1) y187 (y187.length : Int) 0))))
theorem goscan_imagForm.mono_l : ∀ k, (∀ y0 y1 y2 y3 y4 y5, LeO (goscan_imagForm.l0 k y0 y1 y2 y3 y4 y5) (goscan_imagForm.l0 (k + 1) y0 y1 y2 y3 y4 y5))
 | 0 => fun _ _ _ _ _ _ r h => by simp [goscan_imagForm.l0] at h
 | k + 1 => by
  have ih0 := goscan_imagForm.mono_l k
  ·intro y0 y1 y2 y3 y4 y5
   unfold goscan_imagForm.l0
   have m0 := @goscan_brokenForm.mono
   have m1 := @goscan_number.mono
   have m2 := @goscan_wholeForm.mono
   exact mO
theorem goscan_imagForm.mono : ∀ a0 a1 k, LeO (goscan_imagForm.f k a0 a1) (goscan_imagForm.f (k + 1) a0 a1) := by
 intro a0 a1 k
 have ih0 := goscan_imagForm.mono_l k
 unfold goscan_imagForm.f
 have m0 := @goscan_brokenForm.mono
 have m1 := @goscan_number.mono
 have m2 := @goscan_wholeForm.mono
 exact mO
set_option maxHeartbeats 8000000 in
set_option maxRecDepth 100000 in
theorem goscan_imagForm.calls {k : Nat} {a0 : ByteArray} {a1 : Int} {r : Int} {w : World} (h : goscan_imagForm.f k a0 a1 = some r) :
  Calls Try.prog 74 #[.string a0, .int .i64 a1] w fun e w' => e = .returned (.int .i64 r) ∧ Below w.heap.size w w' := by
 have HB := Aside0.mk (Below.refl w.heap.size w)
 have H : ((goscan_number.f k a0 a1 10).bind fun t184 => ((goscan_wholeForm.f k a0 a1).bind fun t185 => ((goscan_brokenForm.f k a0 a1).bind fun t186 => ((some (([t184, t185, t186] : List Int) : List Int)).bind fun y187 => (goscan_imagForm.l0 k a0 a1 (-1) y187 (y187.length : Int) 0))))) = some r := h
 clear h
 replace H := bS H
 obtain ⟨t184, A3, H⟩ := H
 try dsimp only at H
 replace H := bS H
 obtain ⟨t185, A4, H⟩ := H
 try dsimp only at H
 replace H := bS H
 obtain ⟨t186, A5, H⟩ := H
 try dsimp only at H
 obtain ⟨y187, hy187⟩ : ∃ y_ : List Int, y_ = (([t184, t185, t186] : List Int)) := ⟨_, rfl⟩
 replace H : (goscan_imagForm.l0 k a0 a1 (-1) y187 (y187.length : Int) 0) = some r := by first | (rw [hy187]; with_reducible exact H) | (have H2_ := (Option.bind_some _ _).symm.trans H; rw [hy187]; with_reducible exact H2_) | (have H2_ := (Option.bind_some _ _).symm.trans H; with_reducible exact H2_) | with_reducible exact H | (rw [hy187]; exact H) | exact H
 have Ny187 := Aside0.mk hy187
 clear hy187
 have H' := Aside0.mk H
 clear H
 go_enter Try.func74, Try.ntmps74
 go_wp2_with (first | (refine gR (some 10) Try.func96 (goscan_number.calls A3.out) (h := ?_); rintro _ ⟨nd, rfl⟩) | (refine gR (some 13) Try.func72 (goscan_wholeForm.calls A4.out) (h := ?_); rintro w6 hb; replace HB := Aside0.mk (below_step zB hb); (try clear hb); (try clear hb2); (try clear hk); (try clear hi)) | (refine gR (some 16) Try.func73 (goscan_brokenForm.calls A5.out) (h := ?_); rintro w7 hb; replace HB := Aside0.mk (below_step zB hb); (try clear hb); (try clear hb2); (try clear hk); (try clear hi)) | ((with_reducible refine gate_dst (N := 17) rfl ?_); refine Kd.R_lit (Kd.int .i64) _ 3 ?hg (N := 17) ?hd (xs := ([t184, t185, t186] : List Int)) (inner := [.int .i64 t184, .int .i64 t185, .int .i64 t186]) (ok := fun _ => True) (okp := fun _ => True) ?hr ?hp (fun _ hk => hk) trivial (Below.refl _ _) (Nat.le_refl _) Z61 ?_; (case hd => rfl); (case hg => rfl); (case hr => first | (go_simp; done) | (go_simp; rfl)); (case hp => exact (Reps.one (show Kd.M (Kd.int .i64) _ _ _ t184 [.int .i64 t184] from rfl) (Reps.one (show Kd.M (Kd.int .i64) _ _ _ t185 [.int .i64 t185] from rfl) (Reps.one (show Kd.M (Kd.int .i64) _ _ _ t186 [.int .i64 t186] from rfl) (Reps.none _ _))))); intro v188 w8 ho9 hb hg_ hnew_; clear hg_ hnew_; (first | rw [← Ny187.out] at ho9 | (simp only [Int.reduceToNat] at ho9; rw [← Ny187.out] at ho9)); have HO189 := Aside0.mk (Kd.R_lower ho9 (below_size zB)); replace HB := Aside0.mk (below_step zB hb); clear hb ho9; obtain ⟨Ao10, co10, eo10⟩ := Kd.R_slice HO189.out; subst eo10))
 go_loopg [5, 19] k (fun kq v5 v19 w' => ∃ (x5_1 : Int) (x19_1 : Int), v5 = .int .i64 x5_1 ∧ v19 = .int .i64 x19_1 ∧ Aside0 (goscan_imagForm.l0 kq a0 a1 x5_1 y187 (y187.length : Int) x19_1 = some r) ∧ Aside0 (kq ≤ k) ∧ Aside0 (Kd.R (Kd.int .i64) 3 w' w.heap.size (fun _ => True) (.slice Ao10 y187.length co10) y187) ∧ Aside0 (Below w.heap.size w w'))
 case atStart => exact ⟨((-1)), (0), Z1, Z1, H', ⟨Nat.le_refl _⟩, ⟨by (with_reducible repeat (first | apply Kd.R_alloc | apply Kd.R_drewN | apply Kd.R_drew)); exact HO189.out⟩, ⟨Z0⟩⟩
 case round =>
  clear H'
  try clear p2
  try clear c7
  try clear c9
  obtain ⟨x5_1, x19_1, rfl, rfl, HA, HK1, HO_17, HB⟩ := hrel
  cases gk with
  | zero => exact absurd HA.out (by simp [goscan_imagForm.l0])
  | succ k1 =>
   have H := HA.out
   clear HA
   simp only [goscan_imagForm.l0] at H
   by_cases c11 : x19_1 < (y187.length : Int)
   ·rw [if_pos c11] at H
    have c11b0 := decide_eq_true c11
    clear c11
    by_cases c12 : 0 ≤ x19_1
    ·rw [if_pos c12] at H
     have c12b0 := decide_eq_true c12
     clear c12
     by_cases c13 : x19_1 < (y187.length : Int)
     ·rw [if_pos c13] at H
      have c13b0 := decide_eq_true c13
      clear c13
      by_cases c14 : (rd y187 x19_1) > a1
      ·rw [if_pos c14] at H
       have c14b0 : decide (a1 < (rd y187 x19_1)) = true := decide_eq_true c14
       clear c14
       replace H := bS H
       obtain ⟨t191, A15, H⟩ := H
       try dsimp only at H
       by_cases c16 : t191 = 105
       ·rw [if_pos c16] at H
        have c16b0 := e1 c16
        have c16b1 := e2 c16
        clear c16
        obtain ⟨ji17, hji17⟩ : ∃ j_ : Int, (mx x5_1 (wrap64 ((rd y187 x19_1) + 1))) = j_ := ⟨_, rfl⟩
        replace H : (goscan_imagForm.l0 k1 a0 a1 ji17 y187 (y187.length : Int) (wrap64 (x19_1 + 1))) = some r := by first | (rw [hji17] at H; exact H) | (simp only [hji17] at H ⊢; exact H)
        (try rw [hji17] at A15)
        have hji17_ : (if x5_1 < (wrap64 ((rd y187 x19_1) + 1)) then (wrap64 ((rd y187 x19_1) + 1)) else x5_1) = ji17 := hji17
        have H' := Aside0.mk H
        clear H
        have p190 : 0 ≤ (x19_1 : Int) := of_decide_eq_true Z3
        have q190 : x19_1 < (y187.length : Int) := of_decide_eq_true Z3
        obtain ⟨ad190, e190, hx190_0⟩ := Kd.at_int (Kd.R_reads' HO_17.out).2.2 x19_1 p190 q190
        cases e190
        replace p190 := eq_true p190
        replace q190 := eq_true q190
        go_wp2_with (first | (go_at_call 90; (with_reducible refine (goscan_at.calls A15.out).mono ?_); rintro e w' ⟨rfl, ⟨nd, rfl⟩⟩))
        go_roundg k1
        case measure => have := HK1.out; omega
        case rel => exact ⟨(ji17), (wrap64 (x19_1 + 1)), Z52, Z1, H', ⟨Z36⟩, ⟨Z75⟩, ⟨Z0⟩⟩
       ·rw [if_neg c16] at H
        have c16b0 := e3 c16
        have c16b1 := e4 c16
        have H' := Aside0.mk H
        clear H
        have p190 : 0 ≤ (x19_1 : Int) := of_decide_eq_true Z3
        have q190 : x19_1 < (y187.length : Int) := of_decide_eq_true Z3
        obtain ⟨ad190, e190, hx190_0⟩ := Kd.at_int (Kd.R_reads' HO_17.out).2.2 x19_1 p190 q190
        cases e190
        replace p190 := eq_true p190
        replace q190 := eq_true q190
        go_wp2_with (first | (go_at_call 90; (with_reducible refine (goscan_at.calls A15.out).mono ?_); rintro e w' ⟨rfl, ⟨nd, rfl⟩⟩))
        go_roundg k1
        case measure => have := HK1.out; omega
        case rel => exact ⟨(x5_1), (wrap64 (x19_1 + 1)), Z1, Z1, H', ⟨Z36⟩, ⟨Z75⟩, ⟨Z0⟩⟩
      ·rw [if_neg c14] at H
       have c14b0 : decide (a1 < (rd y187 x19_1)) = false := decide_eq_false c14
       clear c14
       have H' := Aside0.mk H
       clear H
       have p190 : 0 ≤ (x19_1 : Int) := of_decide_eq_true Z3
       have q190 : x19_1 < (y187.length : Int) := of_decide_eq_true Z3
       obtain ⟨ad190, e190, hx190_0⟩ := Kd.at_int (Kd.R_reads' HO_17.out).2.2 x19_1 p190 q190
       cases e190
       replace p190 := eq_true p190
       replace q190 := eq_true q190
       go_wp2
       go_roundg k1
       case measure => have := HK1.out; omega
       case rel => exact ⟨(x5_1), (wrap64 (x19_1 + 1)), Z1, Z1, H', ⟨Z36⟩, ⟨Z75⟩, ⟨Z0⟩⟩
     ·rw [if_neg c13] at H
      exact absurd H Z61
    ·rw [if_neg c12] at H
     exact absurd H Z61
   ·rw [if_neg c11] at H
    have c11b0 := decide_eq_false c11
    clear c11
    obtain rfl := Option.some.inj H
    go_wp2
    go_ret
    exact ⟨Z2, Z0⟩
def goscan_digits16.l0 : Nat → ByteArray → Int → Int → Int → Int → Option (Int)
 | 0, _, _, _, _, _ => none
 | k + 1, x0, x1, x2, x7, x8 => if x8 < (wrap64 (x1 + x2)) then ((goscan_at.f x0 x8).bind fun t192 => ((goscan_digit.f t192 16).bind fun t193 => (if t193 = true then (if 0 ≤ x8 then (if x8 < (x0.size : Int) then ((strings_IndexByte.f (⟨#[48, 49, 50, 51, 52, 53, 54, 55, 56, 57, 97, 98, 99, 100, 101, 102]⟩ : ByteArray) (Go.bits .or .u8 (bt x0 x8) 32)).bind fun t194 => (goscan_digits16.l0 k x0 x1 x2 (wrap64 ((wrap64 (x7 * 16)) + t194)) (wrap64 (x8 + 1)))) else (none)) else (none)) else (some (-1))))) else (some x7)
def goscan_digits16.f (k : Nat) (a0 : ByteArray) (a1 : Int) (a2 : Int) : Option (Int) := goscan_digits16.l0 k a0 a1 a2 0 a1
theorem goscan_digits16.mono_l : ∀ k, (∀ y0 y1 y2 y3 y4, LeO (goscan_digits16.l0 k y0 y1 y2 y3 y4) (goscan_digits16.l0 (k + 1) y0 y1 y2 y3 y4))
 | 0 => fun _ _ _ _ _ r h => by simp [goscan_digits16.l0] at h
 | k + 1 => by
  have ih0 := goscan_digits16.mono_l k
  ·intro y0 y1 y2 y3 y4
   unfold goscan_digits16.l0
   exact mO
theorem goscan_digits16.mono : ∀ a0 a1 a2 k, LeO (goscan_digits16.f k a0 a1 a2) (goscan_digits16.f (k + 1) a0 a1 a2) := by
 intro a0 a1 a2 k
 have ih0 := goscan_digits16.mono_l k
 unfold goscan_digits16.f
 exact mO
set_option maxHeartbeats 8000000 in
set_option maxRecDepth 100000 in
theorem goscan_digits16.calls {k : Nat} {a0 : ByteArray} {a1 : Int} {a2 : Int} {r : Int} {w : World} (h : goscan_digits16.f k a0 a1 a2 = some r) :
  Calls Try.prog 109 #[.string a0, .int .i64 a1, .int .i64 a2] w fun e w' => e = .returned (.int .i64 r) ∧ Drawn0 w w' := by
 have H : (goscan_digits16.l0 k a0 a1 a2 0 a1) = some r := h
 clear h
 have H' := Aside0.mk H
 clear H
 go_enter Try.func109, Try.ntmps109
 go_wp2
 go_loopg [7, 8] k (fun kq v7 v8 w' => ∃ (x7_1 : Int) (x8_1 : Int), v7 = .int .i64 x7_1 ∧ v8 = .int .i64 x8_1 ∧ Aside0 (goscan_digits16.l0 kq a0 a1 a2 x7_1 x8_1 = some r) ∧ Aside0 (kq ≤ k) ∧ Drawn0 w w')
 case atStart => exact ⟨(0), (a1), Z1, Z1, H', ⟨Nat.le_refl _⟩, Z4⟩
 case round =>
  clear H'
  try clear c1
  try clear p2
  obtain ⟨x7_1, x8_1, rfl, rfl, HA, HK1, ⟨m1, rfl⟩⟩ := hrel
  cases gk with
  | zero => exact absurd HA.out (by simp [goscan_digits16.l0])
  | succ k1 =>
   have H := HA.out
   clear HA
   simp only [goscan_digits16.l0] at H
   by_cases c4 : x8_1 < (wrap64 (a1 + a2))
   ·rw [if_pos c4] at H
    have c4b0 := decide_eq_true c4
    clear c4
    replace H := bS H
    obtain ⟨t192, A5, H⟩ := H
    try dsimp only at H
    replace H := bS H
    obtain ⟨t193, A6, H⟩ := H
    try dsimp only at H
    by_cases c7 : t193 = true
    ·subst c7
     have H1 : (if 0 ≤ x8_1 then (if x8_1 < (a0.size : Int) then ((strings_IndexByte.f (⟨#[48, 49, 50, 51, 52, 53, 54, 55, 56, 57, 97, 98, 99, 100, 101, 102]⟩ : ByteArray) (Go.bits .or .u8 (bt a0 x8_1) 32)).bind fun t194 => (goscan_digits16.l0 k1 a0 a1 a2 (wrap64 ((wrap64 (x7_1 * 16)) + t194)) (wrap64 (x8_1 + 1)))) else (none)) else (none)) = some r := by rw [if_pos rfl] at H; exact H
     clear H
     have H := H1
     clear H1
     by_cases c8 : 0 ≤ x8_1
     ·rw [if_pos c8] at H
      have c8b0 := decide_eq_true c8
      clear c8
      by_cases c9 : x8_1 < (a0.size : Int)
      ·rw [if_pos c9] at H
       have c9b0 := decide_eq_true c9
       clear c9
       replace H := bS H
       obtain ⟨t194, A11, H⟩ := H
       try dsimp only at H
       have H' := Aside0.mk H
       clear H
       go_wp2_with (first | (refine gR (some 20) Try.func90 (goscan_at.calls A5.out) (h := ?_); rintro _ ⟨nd, rfl⟩) | (refine gR (some 21) Try.func93 (goscan_digit.calls A6.out) (h := ?_); rintro _ ⟨nd, rfl⟩; have p10 : 0 ≤ (x8_1 : Int) := of_decide_eq_true Z3; have q10 : x8_1 < (a0.size : Int) := of_decide_eq_true Z3; have hx10 := bt_at a0 x8_1; replace p10 := eq_true p10; replace q10 := eq_true q10) | (refine gR (some 27) Try.func89 (strings_IndexByte.calls A11.out) (h := ?_); rintro _ ⟨nd, rfl⟩))
       go_roundg k1
       case measure => have := HK1.out; omega
       case rel => exact ⟨(wrap64 ((wrap64 (x7_1 * 16)) + t194)), (wrap64 (x8_1 + 1)), Z1, Z1, H', ⟨Z36⟩, Z4⟩
      ·rw [if_neg c9] at H
       exact absurd H Z61
     ·rw [if_neg c8] at H
      exact absurd H Z61
    ·replace c7 := Bool.eq_false_iff.mpr c7
     subst c7
     have H1 : (some (-1)) = some r := by rw [if_neg (show ¬ (false = true) by decide)] at H; exact H
     clear H
     have H := H1
     clear H1
     obtain rfl := Option.some.inj H
     go_wp2_with (first | (refine gR (some 20) Try.func90 (goscan_at.calls A5.out) (h := ?_); rintro _ ⟨nd, rfl⟩) | (refine gR (some 21) Try.func93 (goscan_digit.calls A6.out) (h := ?_); rintro _ ⟨nd, rfl⟩))
     go_ret
     exact ⟨Z1, Z4⟩
   ·rw [if_neg c4] at H
    have c4b0 := decide_eq_false c4
    clear c4
    obtain rfl := Option.some.inj H
    go_wp2
    go_ret
    exact ⟨Z1, Z4⟩
mutual
def goscan_escapeForm.j0 : Nat → ByteArray → Int → Int → Bool → Option (Int)
 | 0, _, _, _, _ => none
 | k + 1, x0, x1, x2, x20 => if x20 = true then (some (-1)) else (if 0 ≤ (wrap64 (x1 + 1)) then (if (wrap64 (x1 + 1)) < (x0.size : Int) then (if (bt x0 (wrap64 (x1 + 1))) = x2 then (goscan_escapeForm.j1 k x0 x1 (bt x0 (wrap64 (x1 + 1))) true) else ((strings_IndexByte.f (⟨#[97, 98, 102, 110, 114, 116, 118, 92]⟩ : ByteArray) (bt x0 (wrap64 (x1 + 1)))).bind fun t196 => (goscan_escapeForm.j1 k x0 x1 (bt x0 (wrap64 (x1 + 1))) (decide (t196 ≥ 0))))) else (none)) else (none))
def goscan_escapeForm.j1 : Nat → ByteArray → Int → Int → Bool → Option (Int)
 | 0, _, _, _, _ => none
 | k + 1, x0, x1, x7, x25 => if x25 = true then (some (wrap64 (x1 + 2))) else (if x7 ≥ 48 then (goscan_escapeForm.j2 k x0 x1 x7 (decide (x7 ≤ 51))) else (goscan_escapeForm.j2 k x0 x1 x7 false))
def goscan_escapeForm.j2 : Nat → ByteArray → Int → Int → Bool → Option (Int)
 | 0, _, _, _, _ => none
 | k + 1, x0, x1, x7, x36 => if x36 = true then ((goscan_at.f x0 (wrap64 (x1 + 2))).bind fun t197 => ((goscan_digit.f t197 8).bind fun t198 => (if t198 = true then ((goscan_at.f x0 (wrap64 (x1 + 3))).bind fun t199 => ((goscan_digit.f t199 8).bind fun t200 => (if t200 = true then (some (wrap64 (x1 + 4))) else (some (-1))))) else (some (-1))))) else (if x7 = 120 then ((goscan_digits16.f k x0 (wrap64 (x1 + 2)) 2).bind fun t201 => (if t201 ≥ 0 then (some (wrap64 (x1 + 4))) else (some (-1)))) else (if x7 = 117 then (goscan_escapeForm.j3 k x0 x1 x7 true) else (goscan_escapeForm.j3 k x0 x1 x7 (x7 == 85))))
def goscan_escapeForm.j3 : Nat → ByteArray → Int → Int → Bool → Option (Int)
 | 0, _, _, _, _ => none
 | k + 1, x0, x1, x7, x67 => if x67 = true then (if x7 = 85 then ((goscan_digits16.f k x0 (wrap64 (x1 + 2)) 8).bind fun t202 => (if t202 ≥ 0 then (if t202 ≤ 1114111 then (if t202 < 55296 then (some (wrap64 ((wrap64 (x1 + 2)) + 8))) else (if t202 > 57343 then (some (wrap64 ((wrap64 (x1 + 2)) + 8))) else (some (-1)))) else (some (-1))) else (some (-1)))) else ((goscan_digits16.f k x0 (wrap64 (x1 + 2)) 4).bind fun t203 => (if t203 ≥ 0 then (if t203 ≤ 1114111 then (if t203 < 55296 then (some (wrap64 ((wrap64 (x1 + 2)) + 4))) else (if t203 > 57343 then (some (wrap64 ((wrap64 (x1 + 2)) + 4))) else (some (-1)))) else (some (-1))) else (some (-1))))) else (some (-1))
end
def goscan_escapeForm.f (k : Nat) (a0 : ByteArray) (a1 : Int) (a2 : Int) : Option (Int) := (goscan_at.f a0 a1).bind fun t195 => (if t195 = 92 then (goscan_escapeForm.j0 k a0 a1 a2 (decide ((wrap64 (a1 + 1)) ≥ (a0.size : Int)))) else (goscan_escapeForm.j0 k a0 a1 a2 true))
theorem goscan_escapeForm.mono_l : ∀ k, (∀ y0 y1 y2 y3, LeO (goscan_escapeForm.j0 k y0 y1 y2 y3) (goscan_escapeForm.j0 (k + 1) y0 y1 y2 y3)) ∧ (∀ y0 y1 y2 y3, LeO (goscan_escapeForm.j1 k y0 y1 y2 y3) (goscan_escapeForm.j1 (k + 1) y0 y1 y2 y3)) ∧ (∀ y0 y1 y2 y3, LeO (goscan_escapeForm.j2 k y0 y1 y2 y3) (goscan_escapeForm.j2 (k + 1) y0 y1 y2 y3)) ∧ (∀ y0 y1 y2 y3, LeO (goscan_escapeForm.j3 k y0 y1 y2 y3) (goscan_escapeForm.j3 (k + 1) y0 y1 y2 y3))
 | 0 => ⟨fun _ _ _ _ r h => by simp [goscan_escapeForm.j0] at h, fun _ _ _ _ r h => by simp [goscan_escapeForm.j1] at h, fun _ _ _ _ r h => by simp [goscan_escapeForm.j2] at h, fun _ _ _ _ r h => by simp [goscan_escapeForm.j3] at h⟩
 | k + 1 => by
  obtain ⟨ih0, ih1, ih2, ih3⟩ := goscan_escapeForm.mono_l k
  refine ⟨?_, ?_, ?_, ?_⟩
  ·intro y0 y1 y2 y3
   unfold goscan_escapeForm.j0
   have m0 := @goscan_digits16.mono
   exact mO
  ·intro y0 y1 y2 y3
   unfold goscan_escapeForm.j1
   have m0 := @goscan_digits16.mono
   exact mO
  ·intro y0 y1 y2 y3
   unfold goscan_escapeForm.j2
   have m0 := @goscan_digits16.mono
   exact mO
  ·intro y0 y1 y2 y3
   unfold goscan_escapeForm.j3
   have m0 := @goscan_digits16.mono
   exact mO
theorem goscan_escapeForm.mono : ∀ a0 a1 a2 k, LeO (goscan_escapeForm.f k a0 a1 a2) (goscan_escapeForm.f (k + 1) a0 a1 a2) := by
 intro a0 a1 a2 k
 obtain ⟨ih0, ih1, ih2, ih3⟩ := goscan_escapeForm.mono_l k
 unfold goscan_escapeForm.f
 have m0 := @goscan_digits16.mono
 exact mO
set_option maxHeartbeats 8000000 in
set_option maxRecDepth 100000 in
theorem goscan_escapeForm.calls {k : Nat} {a0 : ByteArray} {a1 : Int} {a2 : Int} {r : Int} {w : World} (h : goscan_escapeForm.f k a0 a1 a2 = some r) :
  Calls Try.prog 105 #[.string a0, .int .i64 a1, .int .u8 a2] w fun e w' => e = .returned (.int .i64 r) ∧ Drawn0 w w' := by
 have H : ((goscan_at.f a0 a1).bind fun t195 => (if t195 = 92 then (goscan_escapeForm.j0 k a0 a1 a2 (decide ((wrap64 (a1 + 1)) ≥ (a0.size : Int)))) else (goscan_escapeForm.j0 k a0 a1 a2 true))) = some r := h
 clear h
 have HC4 := Aside0.mk H
 clear H
 go_enter Try.func105, Try.ntmps105
 go_upto_region 1 with (fail)
 go_cut [20] (fun v20 wc => ∃ (kq : Nat) (x20_3 : Bool), v20 = .bool x20_3 ∧ Aside0 (goscan_escapeForm.j0 kq a0 a1 a2 x20_3 = some r) ∧ Aside0 (kq ≤ k) ∧ Drawn0 w wc)
 case first =>
  have H := HC4.out
  clear HC4
  replace H := bS H
  obtain ⟨t195, A5, H⟩ := H
  try dsimp only at H
  by_cases c6 : t195 = 92
  ·rw [if_pos c6] at H
   have c6b0 := e1 c6
   have c6b1 := e2 c6
   clear c6
   (first | rw [c6b0] | (simp only [i64_w, i32_w]; rw [c6b0]) | skip)
   have H' := Aside0.mk H
   clear H
   go_wp2_with (first | (refine gR (some 12) Try.func90 (goscan_at.calls A5.out) (h := ?_); rintro _ ⟨nd, rfl⟩))
   go_meet
   case rel => exact ⟨_, (decide ((wrap64 (a1 + 1)) ≥ (a0.size : Int))), Z1, H', ⟨Z26⟩, Z4⟩
  ·rw [if_neg c6] at H
   have c6b0 := e3 c6
   have c6b1 := e4 c6
   (first | rw [c6b0] | (simp only [i64_w, i32_w]; rw [c6b0]) | skip)
   have H' := Aside0.mk H
   clear H
   go_wp2_with (first | (refine gR (some 12) Try.func90 (goscan_at.calls A5.out) (h := ?_); rintro _ ⟨nd, rfl⟩))
   go_meet
   case rel => exact ⟨_, (true), Z1, H', ⟨Z26⟩, Z4⟩
 case rest =>
  clear HC4
  try clear c1
  try clear p2
  try clear c6
  try clear c6b0
  try clear c6b1
  try clear p6
  obtain ⟨kq, x20_3, rfl, HA, HJ3, ⟨mc3, rfl⟩⟩ := hcut
  cases kq with
  | zero => exact absurd HA.out (by simp [goscan_escapeForm.j0])
  | succ kj3 =>
   have H := HA.out
   clear HA
   simp only [goscan_escapeForm.j0] at H
   by_cases c7 : x20_3 = true
   ·subst c7
    have H1 : (some (-1)) = some r := by rw [if_pos rfl] at H; exact H
    clear H
    have H := H1
    clear H1
    obtain rfl := Option.some.inj H
    go_wp2
    go_ret
    exact ⟨Z1, Z4⟩
   ·replace c7 := Bool.eq_false_iff.mpr c7
    subst c7
    have H1 : (if 0 ≤ (wrap64 (a1 + 1)) then (if (wrap64 (a1 + 1)) < (a0.size : Int) then (if (bt a0 (wrap64 (a1 + 1))) = a2 then (goscan_escapeForm.j1 kj3 a0 a1 (bt a0 (wrap64 (a1 + 1))) true) else ((strings_IndexByte.f (⟨#[97, 98, 102, 110, 114, 116, 118, 92]⟩ : ByteArray) (bt a0 (wrap64 (a1 + 1)))).bind fun t196 => (goscan_escapeForm.j1 kj3 a0 a1 (bt a0 (wrap64 (a1 + 1))) (decide (t196 ≥ 0))))) else (none)) else (none)) = some r := by rw [if_neg (show ¬ (false = true) by decide)] at H; exact H
    clear H
    have H := H1
    clear H1
    obtain ⟨ji8, hji8⟩ : ∃ j_ : Int, (wrap64 (a1 + 1)) = j_ := ⟨_, rfl⟩
    replace H : (if 0 ≤ (ji8) then (if (ji8) < (a0.size : Int) then (if (bt a0 (ji8)) = a2 then (goscan_escapeForm.j1 kj3 a0 a1 (bt a0 (ji8)) true) else ((strings_IndexByte.f (⟨#[97, 98, 102, 110, 114, 116, 118, 92]⟩ : ByteArray) (bt a0 (ji8))).bind fun t196 => (goscan_escapeForm.j1 kj3 a0 a1 (bt a0 (ji8)) (decide (t196 ≥ 0))))) else (none)) else (none)) = some r := by first | (rw [hji8] at H; exact H) | (simp only [hji8] at H ⊢; exact H)
    have hji8w : (IntKind.i64.wrap (a1 + 1)) = ji8 := (i64_w _).trans hji8
    by_cases c9 : 0 ≤ (ji8)
    ·rw [if_pos c9] at H
     have c9b0 := decide_eq_true c9
     clear c9
     by_cases c10 : (ji8) < (a0.size : Int)
     ·rw [if_pos c10] at H
      have c10b0 := decide_eq_true c10
      clear c10
      have HC12 := Aside0.mk H
      clear H
      have p11 : 0 ≤ ((ji8) : Int) := of_decide_eq_true Z3
      have q11 : (ji8) < (a0.size : Int) := of_decide_eq_true Z3
      have hx11 := bt_at a0 (ji8)
      replace p11 := eq_true p11
      replace q11 := eq_true q11
      go_upto_region 4 with (fail)
      go_cut [25] (fun v25 wc => ∃ (kq : Nat) (x25_11 : Bool), v25 = .bool x25_11 ∧ Aside0 (goscan_escapeForm.j1 kq a0 a1 (bt a0 (ji8)) x25_11 = some r) ∧ Aside0 (kq ≤ kj3) ∧ Drawn0 w wc)
      case first =>
       have H := HC12.out
       clear HC12
       by_cases c13 : (bt a0 (ji8)) = a2
       ·rw [if_pos c13] at H
        have c13b0 := e1 c13
        have c13b1 := e2 c13
        clear c13
        (first | rw [c13b0] | (simp only [i64_w, i32_w]; rw [c13b0]) | skip)
        have H' := Aside0.mk H
        clear H
        go_wp2
        go_meet
        case rel => exact ⟨_, (true), Z1, H', ⟨Z73⟩, Z4⟩
       ·rw [if_neg c13] at H
        have c13b0 := e3 c13
        have c13b1 := e4 c13
        (first | rw [c13b0] | (simp only [i64_w, i32_w]; rw [c13b0]) | skip)
        replace H := bS H
        obtain ⟨t196, A14, H⟩ := H
        try dsimp only at H
        have H' := Aside0.mk H
        clear H
        go_wp2_with (first | (go_at_call 89; (with_reducible refine (strings_IndexByte.calls A14.out).mono ?_); rintro e w' ⟨rfl, ⟨nd, rfl⟩⟩))
        go_meet
        case rel => exact ⟨_, (decide (t196 ≥ 0)), Z1, H', ⟨Z73⟩, Z4⟩
      case rest =>
       clear HC12
       try clear c1
       try clear p1
       try clear q1
       try clear hx1
       try clear p2
       try clear c3
       try clear c6
       try clear c6b0
       try clear c6b1
       try clear p6
       try clear c7
       try clear c9
       try clear c9b0
       try clear c10
       try clear c10b0
       try clear p11
       try clear q11
       try clear hx11
       try clear c13
       try clear c13b0
       try clear c13b1
       try clear p11
       try clear p2
       try clear p6
       try clear q11
       obtain ⟨kq, x25_11, rfl, HA, HJ11, ⟨mc11, rfl⟩⟩ := hcut
       cases kq with
       | zero => exact absurd HA.out (by simp [goscan_escapeForm.j1])
       | succ kj11 =>
        have H := HA.out
        clear HA
        simp only [goscan_escapeForm.j1] at H
        by_cases c15 : x25_11 = true
        ·subst c15
         have H1 : (some (wrap64 (a1 + 2))) = some r := by rw [if_pos rfl] at H; exact H
         clear H
         have H := H1
         clear H1
         obtain rfl := Option.some.inj H
         go_wp2
         go_ret
         exact ⟨Z7, Z4⟩
        ·replace c15 := Bool.eq_false_iff.mpr c15
         subst c15
         have H1 : (if (bt a0 (ji8)) ≥ 48 then (goscan_escapeForm.j2 kj11 a0 a1 (bt a0 (ji8)) (decide ((bt a0 (ji8)) ≤ 51))) else (goscan_escapeForm.j2 kj11 a0 a1 (bt a0 (ji8)) false)) = some r := by rw [if_neg (show ¬ (false = true) by decide)] at H; exact H
         clear H
         have H := H1
         clear H1
         have HC16 := Aside0.mk H
         clear H
         go_upto_region 6 with (fail)
         go_cut [36] (fun v36 wc => ∃ (kq : Nat) (x36_15 : Bool), v36 = .bool x36_15 ∧ Aside0 (goscan_escapeForm.j2 kq a0 a1 (bt a0 (ji8)) x36_15 = some r) ∧ Aside0 (kq ≤ kj11) ∧ Drawn0 w wc)
         case first =>
          have H := HC16.out
          clear HC16
          by_cases c17 : (bt a0 (ji8)) ≥ 48
          ·rw [if_pos c17] at H
           have c17b0 : decide (48 ≤ (bt a0 (ji8))) = true := decide_eq_true c17
           clear c17
           (first | rw [c17b0] | (simp only [i64_w, i32_w]; rw [c17b0]) | skip)
           have H' := Aside0.mk H
           clear H
           go_wp2
           go_meet
           case rel => exact ⟨_, (decide ((bt a0 (ji8)) ≤ 51)), Z7, H', ⟨by have := HJ3.out; have := HJ11.out; first | omega | exact Nat.le_refl _⟩, Z4⟩
          ·rw [if_neg c17] at H
           have c17b0 : decide (48 ≤ (bt a0 (ji8))) = false := decide_eq_false c17
           clear c17
           (first | rw [c17b0] | (simp only [i64_w, i32_w]; rw [c17b0]) | skip)
           have H' := Aside0.mk H
           clear H
           go_wp2
           go_meet
           case rel => exact ⟨_, (false), Z1, H', ⟨by have := HJ3.out; have := HJ11.out; first | omega | exact Nat.le_refl _⟩, Z4⟩
         case rest =>
          clear HC16
          try clear c1
          try clear p1
          try clear q1
          try clear hx1
          try clear p2
          try clear c3
          try clear c6
          try clear c6b0
          try clear c6b1
          try clear p6
          try clear c7
          try clear c9
          try clear c9b0
          try clear c10
          try clear c10b0
          try clear c11
          try clear p11
          try clear q11
          try clear hx11
          try clear c13
          try clear c13b0
          try clear c13b1
          try clear c15
          try clear c17
          try clear c17b0
          try clear p1
          try clear p11
          try clear p2
          try clear p6
          try clear q1
          try clear q11
          obtain ⟨kq, x36_15, rfl, HA, HJ15, ⟨mc15, rfl⟩⟩ := hcut
          cases kq with
          | zero => exact absurd HA.out (by simp [goscan_escapeForm.j2])
          | succ kj15 =>
           have H := HA.out
           clear HA
           simp only [goscan_escapeForm.j2] at H
           by_cases c18 : x36_15 = true
           ·subst c18
            have H1 : ((goscan_at.f a0 (wrap64 (a1 + 2))).bind fun t197 => ((goscan_digit.f t197 8).bind fun t198 => (if t198 = true then ((goscan_at.f a0 (wrap64 (a1 + 3))).bind fun t199 => ((goscan_digit.f t199 8).bind fun t200 => (if t200 = true then (some (wrap64 (a1 + 4))) else (some (-1))))) else (some (-1))))) = some r := by rw [if_pos rfl] at H; exact H
            clear H
            have H := H1
            clear H1
            replace H := bS H
            obtain ⟨t197, A19, H⟩ := H
            try dsimp only at H
            replace H := bS H
            obtain ⟨t198, A20, H⟩ := H
            try dsimp only at H
            by_cases c21 : t198 = true
            ·subst c21
             have H1 : ((goscan_at.f a0 (wrap64 (a1 + 3))).bind fun t199 => ((goscan_digit.f t199 8).bind fun t200 => (if t200 = true then (some (wrap64 (a1 + 4))) else (some (-1))))) = some r := by rw [if_pos rfl] at H; exact H
             clear H
             have H := H1
             clear H1
             replace H := bS H
             obtain ⟨t199, A22, H⟩ := H
             try dsimp only at H
             replace H := bS H
             obtain ⟨t200, A23, H⟩ := H
             try dsimp only at H
             by_cases c24 : t200 = true
             ·subst c24
              have H1 : (some (wrap64 (a1 + 4))) = some r := by rw [if_pos rfl] at H; exact H
              clear H
              have H := H1
              clear H1
              obtain rfl := Option.some.inj H
              go_wp2_with (first | (refine gR (some 46) Try.func90 (goscan_at.calls A19.out) (h := ?_); rintro _ ⟨nd, rfl⟩) | (refine gR (some 47) Try.func93 (goscan_digit.calls A20.out) (h := ?_); rintro _ ⟨nd, rfl⟩) | (go_at_call 90; (with_reducible refine (goscan_at.calls A22.out).mono ?_); rintro e w' ⟨rfl, ⟨nd, rfl⟩⟩) | (go_at_call 93; (with_reducible refine (goscan_digit.calls A23.out).mono ?_); rintro e w' ⟨rfl, ⟨nd, rfl⟩⟩))
              go_ret
              exact ⟨Z7, Z4⟩
             ·replace c24 := Bool.eq_false_iff.mpr c24
              subst c24
              have H1 : (some (-1)) = some r := by rw [if_neg (show ¬ (false = true) by decide)] at H; exact H
              clear H
              have H := H1
              clear H1
              obtain rfl := Option.some.inj H
              go_wp2_with (first | (refine gR (some 46) Try.func90 (goscan_at.calls A19.out) (h := ?_); rintro _ ⟨nd, rfl⟩) | (refine gR (some 47) Try.func93 (goscan_digit.calls A20.out) (h := ?_); rintro _ ⟨nd, rfl⟩) | (go_at_call 90; (with_reducible refine (goscan_at.calls A22.out).mono ?_); rintro e w' ⟨rfl, ⟨nd, rfl⟩⟩) | (go_at_call 93; (with_reducible refine (goscan_digit.calls A23.out).mono ?_); rintro e w' ⟨rfl, ⟨nd, rfl⟩⟩))
              go_ret
              exact ⟨Z7, Z4⟩
            ·replace c21 := Bool.eq_false_iff.mpr c21
             subst c21
             have H1 : (some (-1)) = some r := by rw [if_neg (show ¬ (false = true) by decide)] at H; exact H
             clear H
             have H := H1
             clear H1
             obtain rfl := Option.some.inj H
             go_wp2_with (first | (refine gR (some 46) Try.func90 (goscan_at.calls A19.out) (h := ?_); rintro _ ⟨nd, rfl⟩) | (refine gR (some 47) Try.func93 (goscan_digit.calls A20.out) (h := ?_); rintro _ ⟨nd, rfl⟩))
             go_ret
             exact ⟨Z7, Z4⟩
           ·replace c18 := Bool.eq_false_iff.mpr c18
            subst c18
            have H1 : (if (bt a0 (ji8)) = 120 then ((goscan_digits16.f kj15 a0 (wrap64 (a1 + 2)) 2).bind fun t201 => (if t201 ≥ 0 then (some (wrap64 (a1 + 4))) else (some (-1)))) else (if (bt a0 (ji8)) = 117 then (goscan_escapeForm.j3 kj15 a0 a1 (bt a0 (ji8)) true) else (goscan_escapeForm.j3 kj15 a0 a1 (bt a0 (ji8)) ((bt a0 (ji8)) == 85)))) = some r := by rw [if_neg (show ¬ (false = true) by decide)] at H; exact H
            clear H
            have H := H1
            clear H1
            by_cases c25 : (bt a0 (ji8)) = 120
            ·rw [if_pos c25] at H
             have c25b0 := e1 c25
             have c25b1 := e2 c25
             clear c25
             replace H := bS H
             obtain ⟨t201, A26, H⟩ := H
             try dsimp only at H
             by_cases c27 : t201 ≥ 0
             ·rw [if_pos c27] at H
              have c27b0 : decide (0 ≤ t201) = true := decide_eq_true c27
              clear c27
              obtain rfl := Option.some.inj H
              go_wp2_with (first | (refine gR (some 63) Try.func109 (goscan_digits16.calls A26.out) (h := ?_); rintro _ ⟨nd, rfl⟩))
              go_ret
              exact ⟨Z7, Z4⟩
             ·rw [if_neg c27] at H
              have c27b0 : decide (0 ≤ t201) = false := decide_eq_false c27
              clear c27
              obtain rfl := Option.some.inj H
              go_wp2_with (first | (refine gR (some 63) Try.func109 (goscan_digits16.calls A26.out) (h := ?_); rintro _ ⟨nd, rfl⟩))
              go_ret
              exact ⟨Z7, Z4⟩
            ·rw [if_neg c25] at H
             have c25b0 := e3 c25
             have c25b1 := e4 c25
             have HC28 := Aside0.mk H
             clear H
             go_upto_region 12 with (fail)
             go_cut [67] (fun v67 wc => ∃ (kq : Nat) (x67_27 : Bool), v67 = .bool x67_27 ∧ Aside0 (goscan_escapeForm.j3 kq a0 a1 (bt a0 (ji8)) x67_27 = some r) ∧ Aside0 (kq ≤ kj15) ∧ Drawn0 w wc)
             case first =>
              have H := HC28.out
              clear HC28
              by_cases c29 : (bt a0 (ji8)) = 117
              ·rw [if_pos c29] at H
               have c29b0 := e1 c29
               have c29b1 := e2 c29
               clear c29
               (first | rw [c29b0] | (simp only [i64_w, i32_w]; rw [c29b0]) | skip)
               have H' := Aside0.mk H
               clear H
               go_wp2
               go_meet
               case rel => exact ⟨_, (true), Z1, H', ⟨by have := HJ3.out; have := HJ11.out; have := HJ15.out; first | omega | exact Nat.le_refl _⟩, Z4⟩
              ·rw [if_neg c29] at H
               have c29b0 := e3 c29
               have c29b1 := e4 c29
               (first | rw [c29b0] | (simp only [i64_w, i32_w]; rw [c29b0]) | skip)
               have H' := Aside0.mk H
               clear H
               go_wp2
               go_meet
               case rel => exact ⟨_, (((bt a0 (ji8)) == 85)), Z7, H', ⟨by have := HJ3.out; have := HJ11.out; have := HJ15.out; first | omega | exact Nat.le_refl _⟩, Z4⟩
             case rest =>
              clear HC28
              try clear c1
              try clear p1
              try clear q1
              try clear hx1
              try clear c2
              try clear p2
              try clear c3
              try clear c6
              try clear c6b0
              try clear c6b1
              try clear p6
              try clear c7
              try clear c9
              try clear c9b0
              try clear c10
              try clear c10b0
              try clear c11
              try clear p11
              try clear q11
              try clear hx11
              try clear c13
              try clear c13b0
              try clear c13b1
              try clear c15
              try clear c17
              try clear c17b0
              try clear c18
              try clear c21
              try clear c24
              try clear c25
              try clear c25b0
              try clear c25b1
              try clear c27
              try clear c27b0
              try clear c29
              try clear c29b0
              try clear c29b1
              try clear p1
              try clear p11
              try clear p2
              try clear p6
              try clear q1
              try clear q11
              obtain ⟨kq, x67_27, rfl, HA, HJ27, ⟨mc27, rfl⟩⟩ := hcut
              cases kq with
              | zero => exact absurd HA.out (by simp [goscan_escapeForm.j3])
              | succ kj27 =>
               have H := HA.out
               clear HA
               simp only [goscan_escapeForm.j3] at H
               by_cases c30 : x67_27 = true
               ·subst c30
                have H1 : (if (bt a0 (ji8)) = 85 then ((goscan_digits16.f kj27 a0 (wrap64 (a1 + 2)) 8).bind fun t202 => (if t202 ≥ 0 then (if t202 ≤ 1114111 then (if t202 < 55296 then (some (wrap64 ((wrap64 (a1 + 2)) + 8))) else (if t202 > 57343 then (some (wrap64 ((wrap64 (a1 + 2)) + 8))) else (some (-1)))) else (some (-1))) else (some (-1)))) else ((goscan_digits16.f kj27 a0 (wrap64 (a1 + 2)) 4).bind fun t203 => (if t203 ≥ 0 then (if t203 ≤ 1114111 then (if t203 < 55296 then (some (wrap64 ((wrap64 (a1 + 2)) + 4))) else (if t203 > 57343 then (some (wrap64 ((wrap64 (a1 + 2)) + 4))) else (some (-1)))) else (some (-1))) else (some (-1))))) = some r := by rw [if_pos rfl] at H; exact H
                clear H
                have H := H1
                clear H1
                by_cases c31 : (bt a0 (ji8)) = 85
                ·rw [if_pos c31] at H
                 have c31b0 := e1 c31
                 have c31b1 := e2 c31
                 clear c31
                 replace H := bS H
                 obtain ⟨t202, A32, H⟩ := H
                 try dsimp only at H
                 by_cases c33 : t202 ≥ 0
                 ·rw [if_pos c33] at H
                  have c33b0 : decide (0 ≤ t202) = true := decide_eq_true c33
                  clear c33
                  by_cases c34 : t202 ≤ 1114111
                  ·rw [if_pos c34] at H
                   have c34b0 := decide_eq_true c34
                   clear c34
                   by_cases c35 : t202 < 55296
                   ·rw [if_pos c35] at H
                    have c35b0 := decide_eq_true c35
                    clear c35
                    obtain rfl := Option.some.inj H
                    go_wp2_with (first | (refine gR (some 80) Try.func109 (goscan_digits16.calls A32.out) (h := ?_); rintro _ ⟨nd, rfl⟩))
                    go_ret
                    exact ⟨Z7, Z4⟩
                   ·rw [if_neg c35] at H
                    have c35b0 := decide_eq_false c35
                    clear c35
                    by_cases c36 : t202 > 57343
                    ·rw [if_pos c36] at H
                     have c36b0 : decide (57343 < t202) = true := decide_eq_true c36
                     clear c36
                     obtain rfl := Option.some.inj H
                     go_wp2_with (first | (refine gR (some 80) Try.func109 (goscan_digits16.calls A32.out) (h := ?_); rintro _ ⟨nd, rfl⟩))
                     go_ret
                     exact ⟨Z7, Z4⟩
                    ·rw [if_neg c36] at H
                     have c36b0 : decide (57343 < t202) = false := decide_eq_false c36
                     clear c36
                     obtain rfl := Option.some.inj H
                     go_wp2_with (first | (refine gR (some 80) Try.func109 (goscan_digits16.calls A32.out) (h := ?_); rintro _ ⟨nd, rfl⟩))
                     go_ret
                     exact ⟨Z7, Z4⟩
                  ·rw [if_neg c34] at H
                   have c34b0 := decide_eq_false c34
                   clear c34
                   obtain rfl := Option.some.inj H
                   go_wp2_with (first | (refine gR (some 80) Try.func109 (goscan_digits16.calls A32.out) (h := ?_); rintro _ ⟨nd, rfl⟩))
                   go_ret
                   exact ⟨Z7, Z4⟩
                 ·rw [if_neg c33] at H
                  have c33b0 : decide (0 ≤ t202) = false := decide_eq_false c33
                  clear c33
                  obtain rfl := Option.some.inj H
                  go_wp2_with (first | (refine gR (some 80) Try.func109 (goscan_digits16.calls A32.out) (h := ?_); rintro _ ⟨nd, rfl⟩))
                  go_ret
                  exact ⟨Z7, Z4⟩
                ·rw [if_neg c31] at H
                 have c31b0 := e3 c31
                 have c31b1 := e4 c31
                 replace H := bS H
                 obtain ⟨t203, A37, H⟩ := H
                 try dsimp only at H
                 by_cases c38 : t203 ≥ 0
                 ·rw [if_pos c38] at H
                  have c38b0 : decide (0 ≤ t203) = true := decide_eq_true c38
                  clear c38
                  by_cases c39 : t203 ≤ 1114111
                  ·rw [if_pos c39] at H
                   have c39b0 := decide_eq_true c39
                   clear c39
                   by_cases c40 : t203 < 55296
                   ·rw [if_pos c40] at H
                    have c40b0 := decide_eq_true c40
                    clear c40
                    obtain rfl := Option.some.inj H
                    go_wp2_with (first | (refine gR (some 80) Try.func109 (goscan_digits16.calls A37.out) (h := ?_); rintro _ ⟨nd, rfl⟩))
                    go_ret
                    exact ⟨Z7, Z4⟩
                   ·rw [if_neg c40] at H
                    have c40b0 := decide_eq_false c40
                    clear c40
                    by_cases c41 : t203 > 57343
                    ·rw [if_pos c41] at H
                     have c41b0 : decide (57343 < t203) = true := decide_eq_true c41
                     clear c41
                     obtain rfl := Option.some.inj H
                     go_wp2_with (first | (refine gR (some 80) Try.func109 (goscan_digits16.calls A37.out) (h := ?_); rintro _ ⟨nd, rfl⟩))
                     go_ret
                     exact ⟨Z7, Z4⟩
                    ·rw [if_neg c41] at H
                     have c41b0 : decide (57343 < t203) = false := decide_eq_false c41
                     clear c41
                     obtain rfl := Option.some.inj H
                     go_wp2_with (first | (refine gR (some 80) Try.func109 (goscan_digits16.calls A37.out) (h := ?_); rintro _ ⟨nd, rfl⟩))
                     go_ret
                     exact ⟨Z7, Z4⟩
                  ·rw [if_neg c39] at H
                   have c39b0 := decide_eq_false c39
                   clear c39
                   obtain rfl := Option.some.inj H
                   go_wp2_with (first | (refine gR (some 80) Try.func109 (goscan_digits16.calls A37.out) (h := ?_); rintro _ ⟨nd, rfl⟩))
                   go_ret
                   exact ⟨Z7, Z4⟩
                 ·rw [if_neg c38] at H
                  have c38b0 : decide (0 ≤ t203) = false := decide_eq_false c38
                  clear c38
                  obtain rfl := Option.some.inj H
                  go_wp2_with (first | (refine gR (some 80) Try.func109 (goscan_digits16.calls A37.out) (h := ?_); rintro _ ⟨nd, rfl⟩))
                  go_ret
                  exact ⟨Z7, Z4⟩
               ·replace c30 := Bool.eq_false_iff.mpr c30
                subst c30
                have H1 : (some (-1)) = some r := by rw [if_neg (show ¬ (false = true) by decide)] at H; exact H
                clear H
                have H := H1
                clear H1
                obtain rfl := Option.some.inj H
                go_wp2
                go_ret
                exact ⟨Z7, Z4⟩
     ·rw [if_neg c10] at H
      exact absurd H Z61
    ·rw [if_neg c9] at H
     exact absurd H Z61
def goscan_oneForm.f (k : Nat) (a0 : ByteArray) (a1 : Int) (a2 : Int) : Option (Int) := (goscan_at.f a0 a1).bind fun t204 => (if t204 = 92 then ((goscan_escapeForm.f k a0 a1 a2).bind fun t205 => (some t205)) else ((goscan_plainRune.f a0 a1).bind fun bt206 => (if bt206.2 = 0 then (some (-1)) else (if bt206.1 = 10 then (some (-1)) else (if bt206.1 = (wrap32 (a2)) then (some (-1)) else (some (wrap64 (a1 + bt206.2))))))))
theorem goscan_oneForm.mono : ∀ a0 a1 a2 k, LeO (goscan_oneForm.f k a0 a1 a2) (goscan_oneForm.f (k + 1) a0 a1 a2) := by
 intro a0 a1 a2 k
 unfold goscan_oneForm.f
 have m0 := @goscan_escapeForm.mono
 exact mO
set_option maxHeartbeats 8000000 in
set_option maxRecDepth 100000 in
theorem goscan_oneForm.calls {k : Nat} {a0 : ByteArray} {a1 : Int} {a2 : Int} {r : Int} {w : World} (h : goscan_oneForm.f k a0 a1 a2 = some r) :
  Calls Try.prog 99 #[.string a0, .int .i64 a1, .int .u8 a2] w fun e w' => e = .returned (.int .i64 r) ∧ Below w.heap.size w w' := by
 have HB := Aside0.mk (Below.refl w.heap.size w)
 have H : ((goscan_at.f a0 a1).bind fun t204 => (if t204 = 92 then ((goscan_escapeForm.f k a0 a1 a2).bind fun t205 => (some t205)) else ((goscan_plainRune.f a0 a1).bind fun bt206 => (if bt206.2 = 0 then (some (-1)) else (if bt206.1 = 10 then (some (-1)) else (if bt206.1 = (wrap32 (a2)) then (some (-1)) else (some (wrap64 (a1 + bt206.2))))))))) = some r := h
 clear h
 replace H := bS H
 obtain ⟨t204, A4, H⟩ := H
 try dsimp only at H
 by_cases c5 : t204 = 92
 ·rw [if_pos c5] at H
  have c5b0 := e1 c5
  have c5b1 := e2 c5
  clear c5
  replace H := bS H
  obtain ⟨t205, A6, H⟩ := H
  try dsimp only at H
  obtain rfl := Option.some.inj H
  go_enter Try.func99, Try.ntmps99
  go_wp2_with (first | (refine gR (some 11) Try.func90 (goscan_at.calls A4.out) (h := ?_); rintro _ ⟨nd, rfl⟩) | (refine gR (some 16) Try.func105 (goscan_escapeForm.calls A6.out) (h := ?_); rintro _ ⟨nd, rfl⟩))
  go_ret
  exact ⟨Z2, Z0⟩
 ·rw [if_neg c5] at H
  have c5b0 := e3 c5
  have c5b1 := e4 c5
  replace H := bS H
  obtain ⟨⟨t206, t207⟩, A7, H⟩ := H
  try dsimp only at H
  by_cases c8 : t207 = 0
  ·rw [if_pos c8] at H
   have c8b0 := e1 c8
   have c8b1 := e2 c8
   clear c8
   obtain rfl := Option.some.inj H
   go_enter Try.func99, Try.ntmps99
   go_wp2_with (first | (refine gR (some 11) Try.func90 (goscan_at.calls A4.out) (h := ?_); rintro _ ⟨nd, rfl⟩) | (refine gR (some 20) Try.func91 (goscan_plainRune.calls A7.out) (h := ?_); rintro w9 hb; replace HB := Aside0.mk (below_step zB hb); (try clear hb); (try clear hb2); (try clear hk); (try clear hi)))
   go_ret
   exact ⟨Z2, Z0⟩
  ·rw [if_neg c8] at H
   have c8b0 := e3 c8
   have c8b1 := e4 c8
   by_cases c10 : t206 = 10
   ·rw [if_pos c10] at H
    have c10b0 := e1 c10
    have c10b1 := e2 c10
    clear c10
    obtain rfl := Option.some.inj H
    go_enter Try.func99, Try.ntmps99
    go_wp2_with (first | (refine gR (some 11) Try.func90 (goscan_at.calls A4.out) (h := ?_); rintro _ ⟨nd, rfl⟩) | (refine gR (some 20) Try.func91 (goscan_plainRune.calls A7.out) (h := ?_); rintro w11 hb; replace HB := Aside0.mk (below_step zB hb); (try clear hb); (try clear hb2); (try clear hk); (try clear hi)))
    go_ret
    exact ⟨Z2, Z0⟩
   ·rw [if_neg c10] at H
    have c10b0 := e3 c10
    have c10b1 := e4 c10
    by_cases c12 : t206 = (wrap32 (a2))
    ·rw [if_pos c12] at H
     have c12b0 := e1 c12
     have c12b1 := e2 c12
     clear c12
     obtain rfl := Option.some.inj H
     go_enter Try.func99, Try.ntmps99
     go_wp2_with (first | (refine gR (some 11) Try.func90 (goscan_at.calls A4.out) (h := ?_); rintro _ ⟨nd, rfl⟩) | (refine gR (some 20) Try.func91 (goscan_plainRune.calls A7.out) (h := ?_); rintro w13 hb; replace HB := Aside0.mk (below_step zB hb); (try clear hb); (try clear hb2); (try clear hk); (try clear hi)))
     go_ret
     exact ⟨Z2, Z0⟩
    ·rw [if_neg c12] at H
     have c12b0 := e3 c12
     have c12b1 := e4 c12
     obtain rfl := Option.some.inj H
     go_enter Try.func99, Try.ntmps99
     go_wp2_with (first | (refine gR (some 11) Try.func90 (goscan_at.calls A4.out) (h := ?_); rintro _ ⟨nd, rfl⟩) | (refine gR (some 20) Try.func91 (goscan_plainRune.calls A7.out) (h := ?_); rintro w14 hb; replace HB := Aside0.mk (below_step zB hb); (try clear hb); (try clear hb2); (try clear hk); (try clear hi)))
     go_ret
     exact ⟨Z2, Z0⟩
def goscan_charForm.f (k : Nat) (a0 : ByteArray) (a1 : Int) : Option (Int) := (goscan_at.f a0 a1).bind fun t208 => (if t208 = 39 then ((goscan_oneForm.f k a0 (wrap64 (a1 + 1)) 39).bind fun t209 => (if t209 < 0 then (some (-1)) else ((goscan_at.f a0 t209).bind fun t210 => (if t210 = 39 then (some (wrap64 (t209 + 1))) else (some (-1)))))) else (some (-1)))
theorem goscan_charForm.mono : ∀ a0 a1 k, LeO (goscan_charForm.f k a0 a1) (goscan_charForm.f (k + 1) a0 a1) := by
 intro a0 a1 k
 unfold goscan_charForm.f
 have m0 := @goscan_oneForm.mono
 exact mO
set_option maxHeartbeats 8000000 in
set_option maxRecDepth 100000 in
theorem goscan_charForm.calls {k : Nat} {a0 : ByteArray} {a1 : Int} {r : Int} {w : World} (h : goscan_charForm.f k a0 a1 = some r) :
  Calls Try.prog 75 #[.string a0, .int .i64 a1] w fun e w' => e = .returned (.int .i64 r) ∧ Below w.heap.size w w' := by
 have HB := Aside0.mk (Below.refl w.heap.size w)
 have H : ((goscan_at.f a0 a1).bind fun t208 => (if t208 = 39 then ((goscan_oneForm.f k a0 (wrap64 (a1 + 1)) 39).bind fun t209 => (if t209 < 0 then (some (-1)) else ((goscan_at.f a0 t209).bind fun t210 => (if t210 = 39 then (some (wrap64 (t209 + 1))) else (some (-1)))))) else (some (-1)))) = some r := h
 clear h
 replace H := bS H
 obtain ⟨t208, A3, H⟩ := H
 try dsimp only at H
 by_cases c4 : t208 = 39
 ·rw [if_pos c4] at H
  have c4b0 := e1 c4
  have c4b1 := e2 c4
  clear c4
  replace H := bS H
  obtain ⟨t209, A5, H⟩ := H
  try dsimp only at H
  by_cases c6 : t209 < 0
  ·rw [if_pos c6] at H
   have c6b0 := decide_eq_true c6
   clear c6
   obtain rfl := Option.some.inj H
   go_enter Try.func75, Try.ntmps75
   go_wp2_with (first | (refine gR (some 8) Try.func90 (goscan_at.calls A3.out) (h := ?_); rintro _ ⟨nd, rfl⟩) | (refine gR (some 13) Try.func99 (goscan_oneForm.calls A5.out) (h := ?_); rintro w7 hb; replace HB := Aside0.mk (below_step zB hb); (try clear hb); (try clear hb2); (try clear hk); (try clear hi)))
   go_ret
   exact ⟨Z2, Z0⟩
  ·rw [if_neg c6] at H
   have c6b0 := decide_eq_false c6
   clear c6
   replace H := bS H
   obtain ⟨t210, A8, H⟩ := H
   try dsimp only at H
   by_cases c9 : t210 = 39
   ·rw [if_pos c9] at H
    have c9b0 := e1 c9
    have c9b1 := e2 c9
    clear c9
    obtain rfl := Option.some.inj H
    go_enter Try.func75, Try.ntmps75
    go_wp2_with (first | (refine gR (some 8) Try.func90 (goscan_at.calls A3.out) (h := ?_); rintro _ ⟨nd, rfl⟩) | (refine gR (some 13) Try.func99 (goscan_oneForm.calls A5.out) (h := ?_); rintro w10 hb; replace HB := Aside0.mk (below_step zB hb); (try clear hb); (try clear hb2); (try clear hk); (try clear hi)) | (go_at_call 90; (with_reducible refine (goscan_at.calls A8.out).mono ?_); rintro e w' ⟨rfl, ⟨nd, rfl⟩⟩))
    go_ret
    exact ⟨Z2, Z0⟩
   ·rw [if_neg c9] at H
    have c9b0 := e3 c9
    have c9b1 := e4 c9
    obtain rfl := Option.some.inj H
    go_enter Try.func75, Try.ntmps75
    go_wp2_with (first | (refine gR (some 8) Try.func90 (goscan_at.calls A3.out) (h := ?_); rintro _ ⟨nd, rfl⟩) | (refine gR (some 13) Try.func99 (goscan_oneForm.calls A5.out) (h := ?_); rintro w11 hb; replace HB := Aside0.mk (below_step zB hb); (try clear hb); (try clear hb2); (try clear hk); (try clear hi)) | (go_at_call 90; (with_reducible refine (goscan_at.calls A8.out).mono ?_); rintro e w' ⟨rfl, ⟨nd, rfl⟩⟩))
    go_ret
    exact ⟨Z2, Z0⟩
 ·rw [if_neg c4] at H
  have c4b0 := e3 c4
  have c4b1 := e4 c4
  obtain rfl := Option.some.inj H
  go_enter Try.func75, Try.ntmps75
  go_wp2_with (first | (refine gR (some 8) Try.func90 (goscan_at.calls A3.out) (h := ?_); rintro _ ⟨nd, rfl⟩))
  go_ret
  exact ⟨Z2, Z0⟩
end Go.Proofs.Ytcajiapjdlphmaa.H
